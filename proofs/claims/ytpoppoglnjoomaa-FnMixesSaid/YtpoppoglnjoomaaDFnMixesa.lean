/- Walks through the functions that FnMixes reaches: what each answers. -/
import Derived.Test.YtpoppoglnjoomaaEvO
import Derived.Test.YtpoppoglnjoomaaProg
set_option linter.unusedVariables false
set_option linter.unusedSimpArgs false
namespace Go.Proofs.Ytpoppoglnjoomaa.DFnMixes
open Go Go.RowKit Go.Proofs Go.Proofs.Ytpoppoglnjoomaa Go.Proofs.Ytpoppoglnjoomaa.Ev
def ci (n : Int) : AV := .s (.int .i64 n)
def within (xs : List Int) (lo hi : Int) : Prop := ∀ (j : Nat) (q : Int), xs[j]? = some q → lo ≤ q ∧ q ≤ hi
noncomputable instance (xs : List Int) (lo hi : Int) : Decidable (within xs lo hi) := Classical.propDecidable _
theorem all_extI {α : Type} {xs : List α} {i : Nat} {Q : Nat → α → Prop} {p : α} (hJ : ∀ j q, j < i → xs[j]? = some q → Q j q) (hp : xs[i]? = some p) (h : Q i p) : ∀ j q, j < i + 1 → xs[j]? = some q → Q j q := by
  intro j q hj hq
  by_cases e : j = i
  · subst e; rw [hp] at hq; cases hq; exact h
  · exact hJ j q (by omega) hq
theorem all_finI {α : Type} {xs : List α} {i : Nat} {Q : Nat → α → Prop} (hJ : ∀ j q, j < i → xs[j]? = some q → Q j q) (hi : xs.length ≤ i) : ∀ j q, xs[j]? = some q → Q j q := by
  intro j q hq
  exact hJ j q (by have := (List.getElem?_eq_some_iff.1 hq).1; omega) hq
theorem fi_some {α : Type} {xs : List α} {p : α → Prop} [DecidablePred p] {i : Nat} {q : α} (hq : xs[i]? = some q) (hJ : ∀ (j : Nat) (q : α), j < i → xs[j]? = some q → ¬ p q) (h : p q) : xs.findIdx? (fun x => decide (p x)) = some i := by
  rw [List.findIdx?_eq_some_iff_getElem]
  obtain ⟨hl, he⟩ := List.getElem?_eq_some_iff.1 hq
  refine ⟨hl, by simpa [he] using h, fun j hj => ?_⟩
  simpa using hJ j _ hj (List.getElem?_eq_getElem (by omega))
theorem fi_none {α : Type} {xs : List α} {p : α → Prop} [DecidablePred p] (hJ : ∀ (j : Nat) (q : α), xs[j]? = some q → ¬ p q) : xs.findIdx? (fun x => decide (p x)) = none := by
  rw [List.findIdx?_eq_none_iff]
  intro x hx
  obtain ⟨j, hj⟩ := List.getElem?_of_mem hx
  simpa using hJ j x hj
theorem fi_any {α : Type} {xs : List α} {p : α → Prop} [DecidablePred p] : (0 : Int) ≤ (match xs.findIdx? (fun x => decide (p x)) with | some j => (j : Int) | none => -1) ↔ ∃ x ∈ xs, p x := by
  cases h : xs.findIdx? (fun x => decide (p x)) with
  | none =>
    rw [List.findIdx?_eq_none_iff] at h
    simp at h ⊢
    exact h
  | some j =>
    rw [List.findIdx?_eq_some_iff_getElem] at h
    obtain ⟨hl, h1, _⟩ := h
    simp only [Int.natCast_nonneg, true_iff]
    exact ⟨_, List.getElem_mem hl, by simpa using h1⟩
theorem within_any {xs : List Int} {lo hi : Int} : within xs lo hi ↔ ¬ ∃ x ∈ xs, ¬ (lo ≤ x ∧ x ≤ hi) := by
  constructor
  · intro h ⟨x, hx, hn⟩
    obtain ⟨j, hj⟩ := List.getElem?_of_mem hx
    exact hn (h j x hj)
  · intro h j q hq
    apply Classical.byContradiction
    intro hn
    exact h ⟨q, List.mem_of_getElem? hq, hn⟩
def bl (x0 y0 x1 y1 x : Int) : Int := if x ≤ x0 ∨ x1 ≤ x0 then y0 else if x ≥ x1 then y1 else y0 + dr ((y1 - y0) * (x - x0)) (x1 - x0)
def gd (xs : List Int) (i : Nat) : Int := xs.getD i 0
theorem gd_eq {xs : List Int} {i : Nat} {p : Int} (h : xs[i]? = some p) : gd xs i = p := by simp [gd, List.getD, h]
def cb (n : Int) : AV := .s (.int .u8 n)
def src (cs : List Int) (a s : Int) : List AV := [.lst 1 (cs.map cb), .s (.int .i64 a), .s (.int .u64 s)]
theorem repC {n : Nat} : List.replicate n (zelem [AV.s (.int .i64 0)]) = (List.replicate n (0 : Int)).map ci := by rw [List.map_replicate]; rfl
def byteL (cs : List Int) : Prop := ∀ x ∈ cs, 0 ≤ x ∧ x ≤ 255
theorem and255 {x n : Int} (h : n = bitsI .and .u64 x 255) : 0 ≤ n ∧ n ≤ 255 := by
  subst h
  simp only [bitsI]
  have h1 : ((BitVec.ofInt IntKind.u64.bits x) &&& (BitVec.ofInt IntKind.u64.bits 255)).toNat ≤ 255 := by
    rw [BitVec.toNat_and]
    exact Nat.le_trans Nat.and_le_right (by decide)
  generalize ((BitVec.ofInt IntKind.u64.bits x) &&& (BitVec.ofInt IntKind.u64.bits 255)).toNat = m at h1
  have e : IntKind.u64.wrap (m : Int) = (m : Int) % 18446744073709551616 := by simp [IntKind.wrap, IntKind.bits, IntKind.signed]
  rw [e]; omega
theorem dr_eqP {a b : Int} (hb : 0 < b) : dr a b = if a < 0 then -((b - 2 * a) / (2 * b)) else (2 * a + b) / (2 * b) := by unfold dr drP; rw [if_neg (by omega)]
theorem dr_mono' {a a' b : Int} (hb : 0 < b) (h : a ≤ a') : dr a b ≤ dr a' b := by
  rw [dr_eqP hb, dr_eqP hb]
  split
  · split
    · have := Int.ediv_le_ediv (a := b - 2 * a') (b := b - 2 * a) (c := 2 * b) (by omega) (by omega)
      omega
    · have h1 := Int.ediv_nonneg (a := b - 2 * a) (b := 2 * b) (by omega) (by omega)
      have h2 := Int.ediv_nonneg (a := 2 * a' + b) (b := 2 * b) (by omega) (by omega)
      omega
  · rw [if_neg (by omega)]
    exact Int.ediv_le_ediv (by omega) (by omega)
theorem dr_neg {a b : Int} (hb : 0 < b) : dr (-a) b = - dr a b := by
  rw [dr_eqP hb, dr_eqP hb]
  by_cases h : a < 0
  · rw [if_neg (by omega), if_pos h]
    rw [show 2 * -a + b = b - 2 * a by omega]; omega
  · by_cases h0 : a = 0
    · subst h0
      rw [if_neg (by omega), if_neg (by omega)]
      have : (2 * (0 : Int) + b) / (2 * b) = 0 := Int.ediv_eq_zero_of_lt (by omega) (by omega)
      rw [show 2 * -(0 : Int) + b = 2 * 0 + b by omega, this]; rfl
    · rw [if_pos (by omega), if_neg h]
      rw [show b - 2 * -a = 2 * a + b by omega]
theorem dr_mul {k b : Int} (hb : 0 < b) : dr (k * b) b = k := by
  have key : ∀ k : Int, 0 ≤ k → dr (k * b) b = k := fun k hk => by
    have h0 := Int.mul_nonneg hk (show 0 ≤ b by omega)
    rw [dr_eqP hb, if_neg (by omega)]
    have e : 2 * b * k = 2 * (k * b) := by rw [Int.mul_assoc, Int.mul_comm b k]
    exact div_uniq (by omega) (by omega) (by omega)
  by_cases h : 0 ≤ k
  · exact key k h
  · have := key (-k) (by omega)
    rw [Int.neg_mul, dr_neg hb] at this
    omega
theorem dr_spec {a b : Int} (hb : 0 < b) : 2 * a - b ≤ 2 * (b * dr a b) ∧ 2 * (b * dr a b) ≤ 2 * a + b := by
  have key : ∀ a : Int, 0 ≤ a → 2 * a - b ≤ 2 * (b * dr a b) ∧ 2 * (b * dr a b) ≤ 2 * a + b := fun a ha => by
    rw [dr_eqP hb, if_neg (by omega)]
    have h1 := Int.mul_ediv_add_emod (2 * a + b) (2 * b)
    have h2 := Int.emod_nonneg (2 * a + b) (show 2 * b ≠ 0 by omega)
    have h3 := Int.emod_lt_of_pos (2 * a + b) (show 0 < 2 * b by omega)
    rw [Int.mul_assoc] at h1
    omega
  by_cases h : 0 ≤ a
  · exact key a h
  · have := key (-a) (by omega)
    rw [dr_neg hb] at this; simp only [Int.mul_neg] at this
    omega
def dnT : List Int := [99984, 99820, 99220, 98320, 97180, 95835, 94310, 92610, 90745, 88700]
def dA (k : Int) : Int := dnT.getD k.toNat 0
def dK (t : Int) : Int := if t / 2000 < 8 then t / 2000 else 8
def dnC : List AV := dnT.map ci
def dens (t : Int) : Int := bl (2000 * dK t) (dA (dK t)) (2000 * (dK t + 1)) (dA (dK t + 1)) t
theorem dnT_get {k : Int} (h0 : 0 ≤ k) (h : k ≤ 9) : dnT[k.toNat]? = some (dA k) := by
  have hl : k.toNat < dnT.length := by show k.toNat < 10; omega
  rw [List.getElem?_eq_getElem hl]
  simp [dA, List.getD, List.getElem?_eq_getElem hl]
theorem dn_get {k o : Nat} {q : Int} (h : dnT[k]? = some q) (ho : o = k) : dnC[o]? = some (.s (.int .i64 q)) := by subst ho; simp [dnC, h]; rfl
theorem dA_dec {k : Int} (h0 : 0 ≤ k) (h : k ≤ 8) : dA (k + 1) ≤ dA k ∧ 88700 ≤ dA (k + 1) ∧ dA k ≤ 99984 := by
  rcases (by omega : k = 0 ∨ k = 1 ∨ k = 2 ∨ k = 3 ∨ k = 4 ∨ k = 5 ∨ k = 6 ∨ k = 7 ∨ k = 8) with rfl | rfl | rfl | rfl | rfl | rfl | rfl | rfl | rfl <;> decide
theorem dA_anti {k : Int} (h0 : 0 ≤ k) : ∀ n : Nat, k + n ≤ 9 → dA (k + n) ≤ dA k
  | 0, _ => by simp
  | n + 1, h => by
    have ih := dA_anti h0 n (by omega)
    have := (dA_dec (k := k + n) (by omega) (by omega)).1
    rw [show k + ((n + 1 : Nat) : Int) = k + n + 1 by omega]; omega
theorem bl_dn {x0 y0 x1 y1 : Int} (x : Int) (hx : x0 < x1) (hy : y1 ≤ y0) : y1 ≤ bl x0 y0 x1 y1 x ∧ bl x0 y0 x1 y1 x ≤ y0 := by
  unfold bl
  split
  · omega
  · split
    · omega
    · have hb : 0 < x1 - x0 := by omega
      have h1 : (y1 - y0) * (x - x0) ≤ 0 := Int.mul_nonpos_of_nonpos_of_nonneg (by omega) (by omega)
      have h2 : (y1 - y0) * (x1 - x0) ≤ (y1 - y0) * (x - x0) := Int.mul_le_mul_of_nonpos_left (by omega) (by omega)
      have h3 := dr_mono' hb h1
      have h4 := dr_mono' hb h2
      rw [dr_mul hb] at h4
      have h5 : dr 0 (x1 - x0) = 0 := by have := dr_mul (k := 0) hb; rwa [Int.zero_mul] at this
      omega
theorem bl_mono {x0 y0 x1 y1 a b : Int} (hx : x0 < x1) (hy : y1 ≤ y0) (h : a ≤ b) : bl x0 y0 x1 y1 b ≤ bl x0 y0 x1 y1 a := by
  have ha := bl_dn a hx hy
  have hb := bl_dn b hx hy
  by_cases h1 : a ≤ x0
  · have e : bl x0 y0 x1 y1 a = y0 := by unfold bl; rw [if_pos (by omega)]
    omega
  · by_cases h2 : b ≥ x1
    · have e : bl x0 y0 x1 y1 b = y1 := by unfold bl; rw [if_neg (by omega), if_pos h2]
      omega
    · have e1 : bl x0 y0 x1 y1 a = y0 + dr ((y1 - y0) * (a - x0)) (x1 - x0) := by unfold bl; rw [if_neg (by omega), if_neg (by omega)]
      have e2 : bl x0 y0 x1 y1 b = y0 + dr ((y1 - y0) * (b - x0)) (x1 - x0) := by unfold bl; rw [if_neg (by omega), if_neg (by omega)]
      have h3 : (y1 - y0) * (b - x0) ≤ (y1 - y0) * (a - x0) := Int.mul_le_mul_of_nonpos_left (by omega) (by omega)
      have := dr_mono' (show 0 < x1 - x0 by omega) h3
      omega
theorem dK_bd {t : Int} (h0 : 0 ≤ t) : 0 ≤ dK t ∧ dK t ≤ 8 := by unfold dK; split <;> omega
theorem dens_bd {t : Int} (h0 : 0 ≤ t) : 88700 ≤ dens t ∧ dens t ≤ 99984 := by
  obtain ⟨k0, k1⟩ := dK_bd h0
  have h := dA_dec k0 k1
  have := bl_dn (x0 := 2000 * dK t) (y0 := dA (dK t)) (x1 := 2000 * (dK t + 1)) (y1 := dA (dK t + 1)) t (by omega) h.1
  unfold dens; omega
theorem dens_anti {t u : Int} (h0 : 0 ≤ t) (h : t ≤ u) : dens u ≤ dens t := by
  obtain ⟨k0, k1⟩ := dK_bd h0
  obtain ⟨j0, j1⟩ := dK_bd (show 0 ≤ u by omega)
  have hk := dA_dec k0 k1
  have hj := dA_dec j0 j1
  by_cases e : dK t = dK u
  · unfold dens; rw [← e]; exact bl_mono (by omega) hk.1 h
  · have hlt : dK t + 1 ≤ dK u := by unfold dK at e ⊢; split at e <;> split at e <;> (repeat (first | rw [if_pos (by omega)] | rw [if_neg (by omega)])) <;> omega
    have a1 := bl_dn (x0 := 2000 * dK t) (y0 := dA (dK t)) (x1 := 2000 * (dK t + 1)) (y1 := dA (dK t + 1)) t (by omega) hk.1
    have a2 := bl_dn (x0 := 2000 * dK u) (y0 := dA (dK u)) (x1 := 2000 * (dK u + 1)) (y1 := dA (dK u + 1)) u (by omega) hj.1
    have a3 := dA_anti (k := dK t + 1) (by omega) (dK u - (dK t + 1)).toNat (by omega)
    rw [show dK t + 1 + ((dK u - (dK t + 1)).toNat : Int) = dK u by omega] at a3
    unfold dens; omega
def evO (l f t : Int) : Prop := (0 ≤ l ∧ l ≤ 1000000000) ∧ (0 ≤ f ∧ f ≤ 18000) ∧ (0 ≤ t ∧ t ≤ 18000)
instance (l f t : Int) : Decidable (evO l f t) := by unfold evO; infer_instance
theorem mulL {l d : Int} (h : 0 ≤ l ∧ l ≤ 1000000000) (h2 : 88700 ≤ d ∧ d ≤ 99984) : 0 ≤ l * d ∧ l * d ≤ 1000000000 * 99984 := mulB (by omega) (by omega) (by omega) (by omega)
theorem ev_law {l f t v two s three : Int} (hv : v = if evO l f t then dr (l * dens f) (dens t) else 0) (h2 : two = if evO l f t then 0 else 2) (hs : s = if evO l f f then dr (l * dens f) (dens f) else 0) (h3 : three = if evO l f f then 0 else 2) :
    ¬ two = 0 ∨ (three = 0 ∧ s = l ∧ (t < f ∨ l ≤ v) ∧ (f < t ∨ v ≤ l)) := by
  by_cases h : evO l f t
  · right
    have h' : evO l f f := ⟨h.1, h.2.1, h.2.1⟩
    rw [if_pos h] at hv; rw [if_pos h'] at hs h3
    have df := dens_bd h.2.1.1
    have dt := dens_bd h.2.2.1
    have hl := h.1
    refine ⟨h3, by rw [hs, dr_mul (by omega)], ?_, ?_⟩
    · by_cases hft : f ≤ t
      · right
        have := dens_anti h.2.1.1 hft
        have h4 := dr_mono' (b := dens t) (by omega) (Int.mul_le_mul_of_nonneg_left this hl.1)
        rw [dr_mul (by omega)] at h4
        omega
      · left; omega
    · by_cases hft : t ≤ f
      · right
        have := dens_anti h.2.2.1 hft
        have h4 := dr_mono' (b := dens t) (by omega) (Int.mul_le_mul_of_nonneg_left this hl.1)
        rw [dr_mul (by omega)] at h4
        omega
      · left; omega
  · left; rw [if_neg h] at h2; omega
def hpO (h t : Int) : Prop := (-200000 ≤ h ∧ h ≤ 200000) ∧ (0 ≤ t ∧ t ≤ 18000)
instance (h t : Int) : Decidable (hpO h t) := by unfold hpO; infer_instance
theorem mulH {h d : Int} (hh : -200000 ≤ h ∧ h ≤ 200000) (h2 : 88700 ≤ d ∧ d ≤ 99984) : -(99984 * 200000) ≤ d * h ∧ d * h ≤ 99984 * 200000 := mulS (by omega) (by omega) (by omega) (by omega)
theorem hp_law {h t p four n five : Int} (hp : p = if hpO h t then dr (dens t * h * 981) 1000000 else 0) (h4 : four = if hpO h t then 0 else 2) (hn : n = if hpO (-h) t then dr (dens t * -h * 981) 1000000 else 0) (h5 : five = if hpO (-h) t then 0 else 2) :
    four = five ∧ p = -n ∧ -20000000000000 ≤ n ∧ n ≤ 20000000000000 := by
  by_cases h0 : hpO h t
  · have h1 : hpO (-h) t := ⟨by have := h0.1; omega, h0.2⟩
    rw [if_pos h0] at hp h4; rw [if_pos h1] at hn h5
    have hm := mulH h1.1 (dens_bd h0.2.1)
    have hb := dr_bound (a := dens t * -h * 981) (b := 1000000) (by omega)
    have e : dens t * h * 981 = -(dens t * -h * 981) := by rw [Int.mul_neg, Int.neg_mul]; omega
    rw [e, dr_neg (by omega)] at hp
    refine ⟨by omega, by omega, by omega, by omega⟩
  · have h1 : ¬ hpO (-h) t := fun h2 => h0 ⟨by have := h2.1; omega, h2.2⟩
    rw [if_neg h0] at hp h4; rw [if_neg h1] at hn h5
    omega
def enO (p m : Int) : Prop := (0 ≤ p ∧ p ≤ 100000000) ∧ (0 ≤ m ∧ m ≤ 1000000)
instance (p m : Int) : Decidable (enO p m) := by unfold enO; infer_instance
theorem mulE2 {p m : Int} (h : enO p m) : 0 ≤ p * m ∧ p * m ≤ 100000000 * 1000000 := mulB h.1.1 h.1.2 h.2.1 h.2.2
def enV (p m : Int) : Int := if enO p m then dr (p * m) 60 else 0
def enC (p m : Int) : Int := if enO p m then 0 else 2
theorem enV_bd {p m : Int} : 0 ≤ enV p m + 1 ∧ enV p m ≤ 100000000000001 := by
  unfold enV; split
  · rename_i h
    have h1 := mulE2 h
    have h2 := dr_spec (a := p * m) (b := 60) (by omega)
    omega
  · omega
theorem en_law {p m k a b c six seven eight : Int} (ha : a = enV p m) (h6 : six = enC p m) (hb : b = enV p k) (h7 : seven = enC p k) (hc : c = enV p (m - k)) (h8 : eight = enC p (m - k)) (hk : 0 ≤ m → 0 ≤ k ∧ k ≤ m) :
    (¬ six = 0 ∧ a = 0) ∨ (six = 0 ∧ seven = 0 ∧ eight = 0 ∧ -1 ≤ a - b - c ∧ a - b - c ≤ 1) := by
  unfold enV at ha hb hc; unfold enC at h6 h7 h8
  by_cases h : enO p m
  · right
    have hk2 := hk h.2.1
    have hm := h.2
    have h1 : enO p k := ⟨h.1, by omega⟩
    have h2 : enO p (m - k) := ⟨h.1, by omega⟩
    rw [if_pos h] at ha h6; rw [if_pos h1] at hb h7; rw [if_pos h2] at hc h8
    have e : p * m = p * k + p * (m - k) := by rw [← Int.mul_add]; congr 1; omega
    have a1 := dr_spec (a := p * m) (b := 60) (by omega)
    have a2 := dr_spec (a := p * k) (b := 60) (by omega)
    have a3 := dr_spec (a := p * (m - k)) (b := 60) (by omega)
    rw [← ha] at a1; rw [← hb] at a2; rw [← hc] at a3
    generalize p * m = x at *
    generalize p * k = y at *
    generalize p * (m - k) = z at *
    refine ⟨h6, h7, h8, by omega, by omega⟩
  · left
    rw [if_neg h] at ha h6
    omega
def smI (xs : List Int) : Nat → Int
  | 0 => 0
  | n + 1 => smI xs n + gd xs n
theorem smI_s {xs : List Int} {n : Nat} {u : Int} (h : xs[n]? = some u) : smI xs (n + 1) = smI xs n + u := by rw [smI, gd_eq h]
theorem smI_bd {xs : List Int} (hw : within xs 0 100000) : ∀ i : Nat, i ≤ xs.length → 0 ≤ smI xs i ∧ smI xs i ≤ i * 100000
  | 0, _ => by simp [smI]
  | i + 1, h => by
    have ih := smI_bd hw i (by omega)
    have hp : xs[i]? = some (xs[i]'(by omega)) := List.getElem?_eq_getElem (by omega)
    have := hw i _ hp
    rw [smI_s hp]; omega
def mwS (fs ts : List Int) : Nat → Int
  | 0 => 0
  | n + 1 => mwS fs ts n + gd fs n * gd ts n
theorem mwS_s {fs ts : List Int} {n : Nat} {u v : Int} (h : fs[n]? = some u) (h2 : ts[n]? = some v) : mwS fs ts (n + 1) = mwS fs ts n + u * v := by rw [mwS, gd_eq h, gd_eq h2]
theorem mul_ft {u v : Int} (h : 0 ≤ u ∧ u ≤ 100000) (h2 : 0 ≤ v ∧ v ≤ 18000) : 0 ≤ u * v ∧ u * v ≤ 100000 * 18000 := mulB h.1 h.2 h2.1 h2.2
theorem mwS_bd {fs ts : List Int} (hw : within fs 0 100000) (hw2 : within ts 0 18000) (hl : ts.length = fs.length) : ∀ i : Nat, i ≤ fs.length → 0 ≤ mwS fs ts i ∧ mwS fs ts i ≤ i * 1800000000
  | 0, _ => by simp [mwS]
  | i + 1, h => by
    have ih := mwS_bd hw hw2 hl i (by omega)
    have hp : fs[i]? = some (fs[i]'(by omega)) := List.getElem?_eq_getElem (by omega)
    have hq : ts[i]? = some (ts[i]'(by omega)) := List.getElem?_eq_getElem (by omega)
    have := mul_ft (hw i _ hp) (hw2 i _ hq)
    rw [mwS_s hp hq]; omega
theorem mwS_mid {fs ts : List Int} {lo hi : Int} (hw : within fs 0 100000) (hl : ts.length = fs.length) (hb : ∀ (j : Nat) (q : Int), ts[j]? = some q → lo ≤ q ∧ q ≤ hi) : ∀ i : Nat, i ≤ fs.length → lo * smI fs i ≤ mwS fs ts i ∧ mwS fs ts i ≤ hi * smI fs i
  | 0, _ => by simp [mwS, smI]
  | i + 1, h => by
    have ih := mwS_mid hw hl hb i (by omega)
    have hp : fs[i]? = some (fs[i]'(by omega)) := List.getElem?_eq_getElem (by omega)
    have hq : ts[i]? = some (ts[i]'(by omega)) := List.getElem?_eq_getElem (by omega)
    have h1 := hw i _ hp
    have h2 := hb i _ hq
    rw [mwS_s hp hq, smI_s hp]
    generalize fs[i]'(by omega) = u at h1
    generalize ts[i]'(by omega) = v at h2
    have a1 := Int.mul_le_mul_of_nonneg_right h2.1 h1.1
    have a2 := Int.mul_le_mul_of_nonneg_right h2.2 h1.1
    rw [Int.mul_comm v u] at a1 a2
    rw [Int.mul_add, Int.mul_add]
    omega
def mwO (fs ts : List Int) : Prop := (1 ≤ fs.length ∧ fs.length ≤ 64) ∧ ts.length = fs.length ∧ within fs 0 100000 ∧ within ts 0 18000
noncomputable instance (fs ts : List Int) : Decidable (mwO fs ts) := Classical.propDecidable _
noncomputable def mwC (fs ts : List Int) : Int := if mwO fs ts then (if smI fs fs.length = 0 then 6 else 0) else 2
noncomputable def mwV (fs ts : List Int) : Int := if mwC fs ts = 0 then dr (mwS fs ts fs.length) (smI fs fs.length) else 0
theorem mw_ok {fs ts : List Int} (h : mwC fs ts = 0) : mwO fs ts ∧ ¬ smI fs fs.length = 0 := by
  unfold mwC at h
  split at h
  · split at h
    · omega
    · exact ⟨by assumption, by assumption⟩
  · omega
theorem mw_law {fs ts : List Int} {lo hi : Int} (h : mwC fs ts = 0) (hb : ∀ (j : Nat) (q : Int), ts[j]? = some q → lo ≤ q ∧ q ≤ hi) : lo ≤ mwV fs ts ∧ mwV fs ts ≤ hi := by
  obtain ⟨⟨h1, h2, h3, h4⟩, h5⟩ := mw_ok h
  have hs := smI_bd h3 fs.length (Nat.le_refl _)
  have hm := mwS_mid h3 h2 hb fs.length (Nat.le_refl _)
  have hpos : 0 < smI fs fs.length := by omega
  have a1 := dr_mono' hpos hm.1
  have a2 := dr_mono' hpos hm.2
  rw [dr_mul hpos] at a1 a2
  unfold mwV; rw [if_pos h]
  exact ⟨a1, a2⟩
theorem tdiv2 {m : Int} : (0 ≤ m ∧ 0 ≤ m.tdiv 2 ∧ m.tdiv 2 ≤ m) ∨ (m < 0 ∧ m ≤ m.tdiv 2 ∧ m.tdiv 2 ≤ 0) := by
  by_cases h : 0 ≤ m
  · left; rw [Int.tdiv_eq_ediv_of_nonneg h]; omega
  · right
    have e : m.tdiv 2 = -((-m).tdiv 2) := by rw [Int.neg_tdiv]; omega
    rw [e, Int.tdiv_eq_ediv_of_nonneg (by omega)]; omega
theorem mmJ {T : List Int} {lo hi lo' hi' p : Int} {i : Nat} (hJ : ∀ (j : Nat) (q : Int), j < i → T[j]? = some q → lo ≤ q ∧ q ≤ hi) (hp : T[i]? = some p) (h1 : lo' ≤ lo ∧ lo' ≤ p) (h2 : hi ≤ hi' ∧ p ≤ hi') : ∀ (j : Nat) (q : Int), j < i + 1 → T[j]? = some q → lo' ≤ q ∧ q ≤ hi' := by
  intro j q hj hq
  by_cases e : j = i
  · subst e; rw [hp] at hq; cases hq; omega
  · have := hJ j q (by omega) hq; omega
theorem mmF {T : List Int} {lo hi : Int} {i : Nat} (hJ : ∀ (j : Nat) (q : Int), j < i → T[j]? = some q → lo ≤ q ∧ q ≤ hi) (hl : T.length ≤ i) : ∀ (j : Nat) (q : Int), T[j]? = some q → lo ≤ q ∧ q ≤ hi := fun j q hq => hJ j q (by have := (List.getElem?_eq_some_iff.1 hq).1; omega) hq
theorem fO133_0 : fOff Try.prog 133 0 = some 0 := by kernel_rfl
theorem fO133_1 : fOff Try.prog 133 1 = some 1 := by kernel_rfl
theorem fO133_2 : fOff Try.prog 133 2 = some 2 := by kernel_rfl
theorem hmix : Try.prog.follows .mixedOrders = true := by kernel_rfl
theorem pl133 : placesA Try.prog 133 = some [(0, 1), (1, 1), (2, 1)] := by kernel_rfl
theorem pl135 : placesA Try.prog 135 = some [(0, 1), (1, 1), (2, 1), (3, 1), (4, 1), (5, 1), (6, 1), (7, 1), (8, 1), (9, 1)] := by kernel_rfl
theorem sz131 : tSz Try.prog 131 = some 1 := by kernel_rfl
theorem sz135 : tSz Try.prog 135 = some 10 := by kernel_rfl
theorem sz3 : tSz Try.prog 3 = some 1 := by kernel_rfl
theorem tA131 : tAgg Try.prog 131 = some none := by kernel_rfl
theorem tA2 : tAgg Try.prog 2 = some none := by kernel_rfl
theorem tA3 : tAgg Try.prog 3 = some none := by kernel_rfl
theorem tA5 : tAgg Try.prog 5 = some none := by kernel_rfl
theorem tA59 : tAgg Try.prog 59 = some none := by kernel_rfl
theorem tApp22 : tApp Try.prog 22 = some (2, 1, 8) := by kernel_rfl
theorem tArr135 : tArr Try.prog 135 = some (10, 1) := by kernel_rfl
theorem tB4 : tIsBool Try.prog 4 = true := by kernel_rfl
theorem tBy2 : tBytes Try.prog 2 = some 8 := by kernel_rfl
theorem tE22 : tElem Try.prog 22 = some (2, 1) := by kernel_rfl
theorem tE59 : tElem Try.prog 59 = some (5, 1) := by kernel_rfl
theorem tEn135 : tElem Try.prog 135 = none := by kernel_rfl
theorem tEs22 : (tElem Try.prog 22).isSome = true := by kernel_rfl
theorem tEs59 : (tElem Try.prog 59).isSome = true := by kernel_rfl
theorem tK131 : tKind Try.prog 131 = some .u64 := by kernel_rfl
theorem tK2 : tKind Try.prog 2 = some .i64 := by kernel_rfl
theorem tK3 : tKind Try.prog 3 = some .i64 := by kernel_rfl
theorem tK5 : tKind Try.prog 5 = some .u8 := by kernel_rfl
theorem zA133 : zeroA Try.prog 133 = some [.nil, .s (.int .i64 0), .s (.int .u64 0)] := by kernel_rfl
theorem zA135 : zeroA Try.prog 135 = some [.s (.int .i64 0), .s (.int .i64 0), .s (.int .i64 0), .s (.int .i64 0), .s (.int .i64 0), .s (.int .i64 0), .s (.int .i64 0), .s (.int .i64 0), .s (.int .i64 0), .s (.int .i64 0)] := by kernel_rfl
theorem zA2 : zeroA Try.prog 2 = some [.s (.int .i64 0)] := by kernel_rfl

-- impl.within
set_option maxRecDepth 20000 in
set_option maxHeartbeats 2000000 in
theorem D_impl_within (a lo hi : Int)  : Den Try.prog 76 [.s (.int .i64 a), .s (.int .i64 lo), .s (.int .i64 hi)] (.s (.bool (decide (lo ≤ a ∧ a ≤ hi)))) := by
  refine den_of_good Try.func76 (by decide) rfl (Nat.le_of_ble_eq_true rfl) (Nat.le_of_ble_eq_true rfl) ?_
  refine good_seq fun K1 hK1 => ?_
  refine good_region rfl ?_
  refine ev_q rfl (q_assign (by conv => lhs; whnf) ?_)
  refine ev_nil (hK1 _ ?_); clear hK1
  refine good_seq fun K2 hK2 => ?_
  refine good_region rfl ?_
  refine ev_q rfl (q_move (by conv => lhs; whnf) ?_)
  refine ev_q rfl (q_move (by conv => lhs; whnf) ?_)
  refine ev_q rfl (q_int rfl rfl ?_)
  intro b3 hb3; cases b3
  · replace hb3 := dF hb3
    refine ev_q rfl (q_move (by conv => lhs; whnf) ?_)
    refine ev_skip rfl ?_
    refine ev_skip rfl ?_
    refine ev_skip rfl ?_
    refine ev_q rfl (q_pickF rfl (by conv => lhs; whnf) ?_)
    refine ev_q rfl (q_assign (by conv => lhs; whnf) ?_)
    refine ev_nil (hK2 _ ?_); clear hK2
    refine good_ret ?_
    repeat (first | refine thenQ_ret ?_ | refine blockQ_ret ?_)
    refine ret_tmp (st := _) rfl (by conv => lhs; whnf) rfl ?_
    first | rfl | exact fT (by first | omega | grind) | exact fF (by first | omega | grind) | exact fT' (by first | omega | grind) | (exfalso; first | omega | grind)
  · replace hb3 := dT hb3
    refine ev_q rfl (q_move (by conv => lhs; whnf) ?_)
    refine ev_q rfl (q_move (by conv => lhs; whnf) ?_)
    refine ev_q rfl (q_move (by conv => lhs; whnf) ?_)
    refine ev_q rfl (q_int rfl rfl ?_)
    intro b4 hb4; cases b4
    · replace hb4 := dF hb4
      refine ev_q rfl (q_pickT rfl (by conv => lhs; whnf) ?_)
      refine ev_q rfl (q_assign (by conv => lhs; whnf) ?_)
      refine ev_nil (hK2 _ ?_); clear hK2
      refine good_ret ?_
      repeat (first | refine thenQ_ret ?_ | refine blockQ_ret ?_)
      refine ret_tmp (st := _) rfl (by conv => lhs; whnf) rfl ?_
      first | rfl | exact fT (by first | omega | grind) | exact fF (by first | omega | grind) | exact fT' (by first | omega | grind) | (exfalso; first | omega | grind)
    · replace hb4 := dT hb4
      refine ev_q rfl (q_pickT rfl (by conv => lhs; whnf) ?_)
      refine ev_q rfl (q_assign (by conv => lhs; whnf) ?_)
      refine ev_nil (hK2 _ ?_); clear hK2
      refine good_ret ?_
      repeat (first | refine thenQ_ret ?_ | refine blockQ_ret ?_)
      refine ret_tmp (st := _) rfl (by conv => lhs; whnf) rfl ?_
      first | rfl | exact fT (by first | omega | grind) | exact fF (by first | omega | grind) | exact fT' (by first | omega | grind) | (exfalso; first | omega | grind)

-- spec.l00In
set_option maxRecDepth 20000 in
set_option maxHeartbeats 2000000 in
theorem D_spec_l00In (a lo hi : Int)  : Den Try.prog 73 [.s (.int .i64 a), .s (.int .i64 lo), .s (.int .i64 hi)] (.s (.bool (decide (lo ≤ a ∧ a ≤ hi)))) := by
  refine den_of_good Try.func73 (by decide) rfl (Nat.le_of_ble_eq_true rfl) (Nat.le_of_ble_eq_true rfl) ?_
  refine good_seq fun K1 hK1 => ?_
  refine good_region rfl ?_
  refine ev_q rfl (q_assign (by conv => lhs; whnf) ?_)
  refine ev_nil (hK1 _ ?_); clear hK1
  refine good_seq fun K2 hK2 => ?_
  refine good_region rfl ?_
  refine ev_q rfl (q_move (by conv => lhs; whnf) ?_)
  refine ev_q rfl (q_move (by conv => lhs; whnf) ?_)
  refine ev_q rfl (q_int rfl rfl ?_)
  intro b3 hb3; cases b3
  · replace hb3 := dF hb3
    refine ev_q rfl (q_move (by conv => lhs; whnf) ?_)
    refine ev_skip rfl ?_
    refine ev_skip rfl ?_
    refine ev_skip rfl ?_
    refine ev_q rfl (q_pickF rfl (by conv => lhs; whnf) ?_)
    refine ev_q rfl (q_assign (by conv => lhs; whnf) ?_)
    refine ev_nil (hK2 _ ?_); clear hK2
    refine good_ret ?_
    repeat (first | refine thenQ_ret ?_ | refine blockQ_ret ?_)
    refine ret_tmp (st := _) rfl (by conv => lhs; whnf) rfl ?_
    first | rfl | exact fT (by first | omega | grind) | exact fF (by first | omega | grind) | exact fT' (by first | omega | grind) | (exfalso; first | omega | grind)
  · replace hb3 := dT hb3
    refine ev_q rfl (q_move (by conv => lhs; whnf) ?_)
    refine ev_q rfl (q_move (by conv => lhs; whnf) ?_)
    refine ev_q rfl (q_move (by conv => lhs; whnf) ?_)
    refine ev_q rfl (q_int rfl rfl ?_)
    intro b4 hb4; cases b4
    · replace hb4 := dF hb4
      refine ev_q rfl (q_pickT rfl (by conv => lhs; whnf) ?_)
      refine ev_q rfl (q_assign (by conv => lhs; whnf) ?_)
      refine ev_nil (hK2 _ ?_); clear hK2
      refine good_ret ?_
      repeat (first | refine thenQ_ret ?_ | refine blockQ_ret ?_)
      refine ret_tmp (st := _) rfl (by conv => lhs; whnf) rfl ?_
      first | rfl | exact fT (by first | omega | grind) | exact fF (by first | omega | grind) | exact fT' (by first | omega | grind) | (exfalso; first | omega | grind)
    · replace hb4 := dT hb4
      refine ev_q rfl (q_pickT rfl (by conv => lhs; whnf) ?_)
      refine ev_q rfl (q_assign (by conv => lhs; whnf) ?_)
      refine ev_nil (hK2 _ ?_); clear hK2
      refine good_ret ?_
      repeat (first | refine thenQ_ret ?_ | refine blockQ_ret ?_)
      refine ret_tmp (st := _) rfl (by conv => lhs; whnf) rfl ?_
      first | rfl | exact fT (by first | omega | grind) | exact fF (by first | omega | grind) | exact fT' (by first | omega | grind) | (exfalso; first | omega | grind)

-- impl.allWithin$1
set_option maxRecDepth 20000 in
set_option maxHeartbeats 2000000 in
theorem D_impl_allWithin_1 (a lo hi : Int)  : Den Try.prog 116 [.s (.int .i64 a), .rp [.s (.int .i64 lo)], .rp [.s (.int .i64 hi)]] (.s (.bool (decide (¬ (lo ≤ a ∧ a ≤ hi))))) := by
  refine den_of_good Try.func116 (by decide) rfl (Nat.le_of_ble_eq_true rfl) (Nat.le_of_ble_eq_true rfl) ?_
  refine good_seq fun K1 hK1 => ?_
  refine good_region rfl ?_
  refine ev_q rfl (q_assign (by conv => lhs; whnf) ?_)
  refine ev_nil (hK1 _ ?_); clear hK1
  refine good_seq fun K2 hK2 => ?_
  refine good_region rfl ?_
  refine ev_q rfl (q_move (by conv => lhs; whnf) ?_)
  refine ev_q rfl (q_load tA2 rfl ?_)
  refine ev_q rfl (q_load tA2 rfl ?_)
  refine ev_q rfl (q_callB rfl rfl (rfl) (D_impl_within ..) ?_)
  intro b3 hb3; cases b3
  · first | replace hb3 := dF hb3 | skip
    refine ev_q rfl (q_not rfl rfl ?_)
    refine ev_q rfl (q_assign (by conv => lhs; whnf) ?_)
    refine ev_nil (hK2 _ ?_); clear hK2
    refine good_ret ?_
    repeat (first | refine thenQ_ret ?_ | refine blockQ_ret ?_)
    refine ret_tmp (st := _) rfl (by conv => lhs; whnf) rfl ?_
    first | rfl | exact fT (by first | omega | grind) | exact fF (by first | omega | grind) | exact fT' (by first | omega | grind) | (exfalso; first | omega | grind)
  · first | replace hb3 := dT hb3 | skip
    refine ev_q rfl (q_not rfl rfl ?_)
    refine ev_q rfl (q_assign (by conv => lhs; whnf) ?_)
    refine ev_nil (hK2 _ ?_); clear hK2
    refine good_ret ?_
    repeat (first | refine thenQ_ret ?_ | refine blockQ_ret ?_)
    refine ret_tmp (st := _) rfl (by conv => lhs; whnf) rfl ?_
    first | rfl | exact fT (by first | omega | grind) | exact fF (by first | omega | grind) | exact fT' (by first | omega | grind) | (exfalso; first | omega | grind)

-- slices.IndexFunc[[]int64,int64]
set_option maxRecDepth 20000 in
set_option maxHeartbeats 2000000 in
theorem D_slices_IndexFunc_int64_int64 (f : Nat) (caps : List AV) (p : Int → Prop) [DecidablePred p] (xs : List Int) (hx : xs.length ≤ 17592186044416) (hf : ∀ x ∈ xs, Den Try.prog f (.s (.int .i64 x) :: caps) (.s (.bool (decide (p x))))) : Den Try.prog 138 [.lst 1 (xs.map ci), .fn f caps] (.s (.int .i64 ((match xs.findIdx? (fun x => decide (p x)) with | some j => (j : Int) | none => -1)))) := by
  refine den_of_good Try.func138 (by decide) rfl (Nat.le_of_ble_eq_true rfl) (Nat.le_of_ble_eq_true rfl) ?_
  refine good_seq fun K1 hK1 => ?_
  refine good_region rfl ?_
  refine ev_q rfl (q_assign (by conv => lhs; whnf) ?_)
  refine ev_nil (hK1 _ ?_); clear hK1
  refine good_seq fun K2 hK2 => ?_
  refine good_seq fun K3 hK3 => ?_
  refine good_region rfl ?_
  refine ev_q rfl (q_move (by conv => lhs; whnf) ?_)
  refine ev_q rfl (q_len tEs22 rfl ?_)
  intro n4 hn4
  try simp only [List.length_map] at hn4
  refine ev_q rfl (q_move (by conv => lhs; whnf) ?_)
  refine ev_nil (hK3 _ ?_); clear hK3
  refine good_block ?_
  refine good_loop (α := Nat) (fun i => { env := upd (upd (upd (upd ((fun _ => .junk)) 0 (.lst 1 (xs.map ci))) 1 (.fn f caps)) 7 (.s (.int .i64 ((xs.length : Int))))) 8 (.s (.int .i64 i)), H := fun _ => none }) (fun i => i ≤ xs.length ∧ ∀ j q, j < i → xs[j]? = some q → ¬ p q) (fun i => xs.length - i) 0 ?_ ?_ ?_
  · exact ⟨by omega, fun j u hj => by omega⟩
  · refine sub_weak ?_ ?_
    · exact weakH_none _
    · refine weakE_upd ?e8 ?r8 (weakE_upd ?e7 ?r7 (weakE_upd ?e1 ?r1 (weakE_upd ?e0 ?r0 (weakE_junk _ _))))
      case e0 => first | rfl | exact fI (by omega) | (simp_all)
      case r0 => intro h hh; cases hh
      case e1 => first | rfl | exact fI (by omega) | (simp_all)
      case r1 => intro h hh; cases hh
      case e7 => first | rfl | exact fI (by omega) | (simp_all)
      case r7 => intro h hh; cases hh
      case e8 => first | rfl | exact fI (by omega) | (simp_all)
      case r8 => intro h hh; cases hh
  · rintro i ⟨hI, hJ⟩
    refine good_seq fun K5 hK5 => ?_
    refine good_region rfl ?_
    refine ev_q rfl (q_int rfl rfl ?_)
    intro b6 hb6; cases b6
    · replace hb6 := dF hb6
      refine ev_nil (hK5 _ ?_); clear hK5
      refine good_seq fun K7 hK7 => ?_
      refine good_condF rfl ?_
      refine good_exit ?_
      repeat (first | refine thenQ_exit ?_ | refine blockQ_pass rfl ?_)
      refine blockQ_exit (hK2 _ ?_); clear hK2
      refine good_seq fun K8 hK8 => ?_
      refine good_region rfl ?_
      refine ev_q rfl (q_assign (by conv => lhs; whnf) ?_)
      refine ev_nil (hK8 _ ?_); clear hK8
      refine good_ret ?_
      repeat (first | refine thenQ_ret ?_ | refine blockQ_ret ?_)
      refine ret_tmp (st := _) rfl (by conv => lhs; whnf) rfl ?_
      clear hK7
      first | exact fI (by have e := fi_some (i := i) hq hJ (by assumption); simp only [e]) | exact fI (by have e := fi_none (all_finI (Q := fun _ q => ¬ p q) hJ (by omega)); simp only [e])
    · replace hb6 := dT hb6
      obtain ⟨q, hq⟩ := getL (xs := xs) (n := (i : Int)) (by omega) (by omega)
      replace hq : xs[i]? = some q := hq
      refine ev_nil (hK5 _ ?_); clear hK5
      refine good_seq fun K9 hK9 => ?_
      refine good_condT rfl ?_
      refine good_skip (hK9 _ ?_); clear hK9
      refine good_seq fun K10 hK10 => ?_
      refine good_block ?_
      refine good_seq fun K11 hK11 => ?_
      refine good_region rfl ?_
      refine ev_q rfl (q_move (by conv => lhs; whnf) ?_)
      refine ev_q rfl (q_assign (by conv => lhs; whnf) ?_)
      refine ev_nil (hK11 _ ?_); clear hK11
      refine good_seq fun K12 hK12 => ?_
      refine good_region rfl ?_
      refine ev_q rfl (q_move (by conv => lhs; whnf) ?_)
      refine ev_q rfl (q_move (by conv => lhs; whnf) ?_)
      refine ev_q rfl (q_move (by conv => lhs; whnf) ?_)
      refine ev_q rfl (q_idx tE22 rfl rfl (by exact Int.natCast_nonneg _) (by exact map_get hq) rfl ?_)
      refine ev_q rfl (q_load tA2 rfl ?_)
      refine ev_q rfl (q_callB rfl rfl (rfl) (hf _ (List.mem_of_getElem? hq)) ?_)
      intro b13 hb13; cases b13
      · first | replace hb13 := dF hb13 | skip
        refine ev_nil (hK12 _ ?_); clear hK12
        refine good_condF rfl ?_
        refine good_skip (hK10 _ ?_); clear hK10
        refine good_region rfl ?_
        refine ev_q rfl (q_int rfl rfl ?_)
        intro n14 hn14
        replace hn14 := in64 hn14 (by omega) (by omega)
        refine ev_q rfl (q_move (by conv => lhs; whnf) ?_)
        refine ev_nil ?_
        clear hK2
        refine ⟨i + 1, ?_, ?_, ?_⟩
        · exact ⟨by omega, all_extI (Q := fun _ q => ¬ p q) hJ hq (by assumption)⟩
        · first | omega | (simp only []; omega) | (dsimp only; omega)
        · refine sub_weak ?_ ?_
          · exact weakH_none _
          · refine weakE_upd ?e8 ?r8 (weakE_upd ?e7 ?r7 (weakE_upd ?e1 ?r1 (weakE_upd ?e0 ?r0 (weakE_junk _ _))))
            case e0 => first | rfl | exact fI (by omega) | (simp_all)
            case r0 => intro h hh; cases hh
            case e1 => first | rfl | exact fI (by omega) | (simp_all)
            case r1 => intro h hh; cases hh
            case e7 => first | rfl | exact fI (by omega) | (simp_all)
            case r7 => intro h hh; cases hh
            case e8 => first | rfl | exact fI (by omega) | (simp_all)
            case r8 => intro h hh; cases hh
      · first | replace hb13 := dT hb13 | skip
        refine ev_nil (hK12 _ ?_); clear hK12
        refine good_condT rfl ?_
        refine good_seq fun K15 hK15 => ?_
        refine good_region rfl ?_
        refine ev_q rfl (q_move (by conv => lhs; whnf) ?_)
        refine ev_q rfl (q_assign (by conv => lhs; whnf) ?_)
        refine ev_nil (hK15 _ ?_); clear hK15
        refine good_ret ?_
        repeat (first | refine thenQ_ret ?_ | refine blockQ_ret ?_)
        refine ret_tmp (st := _) rfl (by conv => lhs; whnf) rfl ?_
        clear hK2 hK10
        first | exact fI (by have e := fi_some (i := i) hq hJ (by assumption); simp only [e]) | exact fI (by have e := fi_none (all_finI (Q := fun _ q => ¬ p q) hJ (by omega)); simp only [e])

-- slices.ContainsFunc[[]int64,int64]
set_option maxRecDepth 20000 in
set_option maxHeartbeats 2000000 in
theorem D_slices_ContainsFunc_int64_int64 (f : Nat) (caps : List AV) (p : Int → Prop) [DecidablePred p] (xs : List Int) [Decidable (∃ x ∈ xs, p x)] (hx : xs.length ≤ 17592186044416) (hf : ∀ x ∈ xs, Den Try.prog f (.s (.int .i64 x) :: caps) (.s (.bool (decide (p x))))) : Den Try.prog 115 [.lst 1 (xs.map ci), .fn f caps] (.s (.bool (decide (∃ x ∈ xs, p x)))) := by
  refine den_of_good Try.func115 (by decide) rfl (Nat.le_of_ble_eq_true rfl) (Nat.le_of_ble_eq_true rfl) ?_
  refine good_seq fun K1 hK1 => ?_
  refine good_region rfl ?_
  refine ev_q rfl (q_assign (by conv => lhs; whnf) ?_)
  refine ev_nil (hK1 _ ?_); clear hK1
  refine good_seq fun K2 hK2 => ?_
  refine good_region rfl ?_
  refine ev_q rfl (q_move (by conv => lhs; whnf) ?_)
  refine ev_q rfl (q_move (by conv => lhs; whnf) ?_)
  refine ev_q rfl (q_callI rfl rfl (rfl) (D_slices_IndexFunc_int64_int64 f caps p xs hx hf) ?_)
  intro n3 hn3
  refine ev_q rfl (q_int rfl rfl ?_)
  intro b4 hb4; cases b4
  · replace hb4 := dF hb4
    refine ev_q rfl (q_assign (by conv => lhs; whnf) ?_)
    refine ev_nil (hK2 _ ?_); clear hK2
    refine good_ret ?_
    repeat (first | refine thenQ_ret ?_ | refine blockQ_ret ?_)
    refine ret_tmp (st := _) rfl (by conv => lhs; whnf) rfl ?_
    first | exact fT (fi_any.1 (by omega)) | exact fF (fun h => absurd (fi_any.2 h) (by omega))
  · replace hb4 := dT hb4
    refine ev_q rfl (q_assign (by conv => lhs; whnf) ?_)
    refine ev_nil (hK2 _ ?_); clear hK2
    refine good_ret ?_
    repeat (first | refine thenQ_ret ?_ | refine blockQ_ret ?_)
    refine ret_tmp (st := _) rfl (by conv => lhs; whnf) rfl ?_
    first | exact fT (fi_any.1 (by omega)) | exact fF (fun h => absurd (fi_any.2 h) (by omega))

-- impl.allWithin
set_option maxRecDepth 20000 in
set_option maxHeartbeats 2000000 in
theorem D_impl_allWithin (xs : List Int) (lo hi : Int) (hx : xs.length ≤ 17592186044416) : Den Try.prog 65 [.lst 1 (xs.map ci), .s (.int .i64 lo), .s (.int .i64 hi)] (.s (.bool (decide (within xs lo hi)))) := by
  classical
  refine den_of_good Try.func65 (by decide) rfl (Nat.le_of_ble_eq_true rfl) (Nat.le_of_ble_eq_true rfl) ?_
  refine good_seq fun K1 hK1 => ?_
  refine good_region rfl ?_
  refine ev_k rfl (k_box (by conv => lhs; whnf) rfl rfl rfl ?_)
  refine ev_k rfl (k_box (by conv => lhs; whnf) rfl rfl rfl ?_)
  refine ev_q rfl (q_assign (by conv => lhs; whnf) ?_)
  refine ev_nil (hK1 _ ?_); clear hK1
  refine good_seq fun K2 hK2 => ?_
  refine good_region rfl ?_
  refine ev_q rfl (q_move (by conv => lhs; whnf) ?_)
  refine ev_q rfl (q_clo rfl rfl ?_)
  refine ev_q rfl (q_callB rfl rfl (rfl) (D_slices_ContainsFunc_int64_int64 _ _ (fun x => ¬ (lo ≤ x ∧ x ≤ hi)) xs hx (fun x _ => D_impl_allWithin_1 x lo hi)) ?_)
  intro b3 hb3; cases b3
  · first | replace hb3 := dF hb3 | skip
    refine ev_q rfl (q_not rfl rfl ?_)
    refine ev_q rfl (q_assign (by conv => lhs; whnf) ?_)
    refine ev_nil (hK2 _ ?_); clear hK2
    refine good_ret ?_
    repeat (first | refine thenQ_ret ?_ | refine blockQ_ret ?_)
    refine ret_tmp (st := _) rfl (by conv => lhs; whnf) rfl ?_
    first | exact fT (within_any.2 (by assumption)) | exact fF (fun h => absurd (within_any.1 h) (by simpa using ‹∃ x ∈ xs, ¬ (lo ≤ x ∧ x ≤ hi)›))
  · first | replace hb3 := dT hb3 | skip
    refine ev_q rfl (q_not rfl rfl ?_)
    refine ev_q rfl (q_assign (by conv => lhs; whnf) ?_)
    refine ev_nil (hK2 _ ?_); clear hK2
    refine good_ret ?_
    repeat (first | refine thenQ_ret ?_ | refine blockQ_ret ?_)
    refine ret_tmp (st := _) rfl (by conv => lhs; whnf) rfl ?_
    first | exact fT (within_any.2 (by assumption)) | exact fF (fun h => absurd (within_any.1 h) (by simpa using ‹∃ x ∈ xs, ¬ (lo ≤ x ∧ x ≤ hi)›))

-- spec.l01Div
set_option maxRecDepth 20000 in
set_option maxHeartbeats 2000000 in
theorem D_spec_l01Div (a b : Int) (ha : -4000000000000000000 ≤ a ∧ a ≤ 4000000000000000000) (hb : b ≠ 0 ∧ -1000000000000000000 ≤ b ∧ b ≤ 1000000000000000000) : Den Try.prog 64 [.s (.int .i64 a), .s (.int .i64 b)] (.s (.int .i64 (dr a b))) := by
  refine den_of_good Try.func64 (by decide) rfl (Nat.le_of_ble_eq_true rfl) (Nat.le_of_ble_eq_true rfl) ?_
  refine good_seq fun K1 hK1 => ?_
  refine good_region rfl ?_
  refine ev_q rfl (q_assign (by conv => lhs; whnf) ?_)
  refine ev_nil (hK1 _ ?_); clear hK1
  refine good_seq fun K2 hK2 => ?_
  refine good_seq fun K3 hK3 => ?_
  refine good_region rfl ?_
  refine ev_q rfl (q_move (by conv => lhs; whnf) ?_)
  refine ev_q rfl (q_int rfl rfl ?_)
  intro b4 hb4; cases b4
  · replace hb4 := dF hb4
    refine ev_nil (hK3 _ ?_); clear hK3
    refine good_condF rfl ?_
    refine good_skip (hK2 _ ?_); clear hK2
    refine good_seq fun K5 hK5 => ?_
    refine good_seq fun K6 hK6 => ?_
    refine good_region rfl ?_
    refine ev_q rfl (q_move (by conv => lhs; whnf) ?_)
    refine ev_q rfl (q_int rfl rfl ?_)
    intro b7 hb7; cases b7
    · replace hb7 := dF hb7
      refine ev_nil (hK6 _ ?_); clear hK6
      refine good_condF rfl ?_
      refine good_skip (hK5 _ ?_); clear hK5
      refine good_seq fun K8 hK8 => ?_
      refine good_region rfl ?_
      refine ev_q rfl (q_move (by conv => lhs; whnf) ?_)
      refine ev_q rfl (q_int rfl rfl ?_)
      intro n9 hn9
      replace hn9 := in64 hn9 (by omega) (by omega)
      refine ev_q rfl (q_move (by conv => lhs; whnf) ?_)
      refine ev_q rfl (q_int rfl rfl ?_)
      intro n10 hn10
      replace hn10 := in64 hn10 (by omega) (by omega)
      refine ev_q rfl (q_move (by conv => lhs; whnf) ?_)
      refine ev_q rfl (q_int rfl rfl ?_)
      intro n11 hn11
      replace hn11 := in64 hn11 (by omega) (by omega)
      refine ev_q rfl (q_int rfl rfl ⟨by omega, ?_⟩)
      intro n12 hn12
      first | replace hn12 := quoE hn12 (by omega) (by omega) | replace hn12 := quoT hn12 (by omega) (by omega)
      refine ev_q rfl (q_assign (by conv => lhs; whnf) ?_)
      refine ev_nil (hK8 _ ?_); clear hK8
      refine good_ret ?_
      repeat (first | refine thenQ_ret ?_ | refine blockQ_ret ?_)
      refine ret_tmp (st := _) rfl (by conv => lhs; whnf) rfl ?_
      exact fI (by simp only [dr, drP]; subst_vars; first | rw [if_pos (by omega), if_pos (by omega)] | rw [if_pos (by omega), if_neg (by omega)] | rw [if_neg (by omega), if_pos (by omega)] | rw [if_neg (by omega), if_neg (by omega)])
    · replace hb7 := dT hb7
      refine ev_nil (hK6 _ ?_); clear hK6
      refine good_condT rfl ?_
      refine good_seq fun K13 hK13 => ?_
      refine good_region rfl ?_
      refine ev_q rfl (q_move (by conv => lhs; whnf) ?_)
      refine ev_q rfl (q_move (by conv => lhs; whnf) ?_)
      refine ev_q rfl (q_int rfl rfl ?_)
      intro n14 hn14
      replace hn14 := in64 hn14 (by omega) (by omega)
      refine ev_q rfl (q_int rfl rfl ?_)
      intro n15 hn15
      replace hn15 := in64 hn15 (by omega) (by omega)
      refine ev_q rfl (q_move (by conv => lhs; whnf) ?_)
      refine ev_q rfl (q_int rfl rfl ?_)
      intro n16 hn16
      replace hn16 := in64 hn16 (by omega) (by omega)
      refine ev_q rfl (q_int rfl rfl ⟨by omega, ?_⟩)
      intro n17 hn17
      first | replace hn17 := quoE hn17 (by omega) (by omega) | replace hn17 := quoT hn17 (by omega) (by omega)
      refine ev_q rfl (q_neg rfl ?_)
      intro n18 hn18
      have hd := divB (x := n15) (y := n16) (by omega) (by omega)
      rw [← hn17] at hd
      replace hn18 := neg64 hn18 (by omega) (by omega)
      refine ev_q rfl (q_assign (by conv => lhs; whnf) ?_)
      refine ev_nil (hK13 _ ?_); clear hK13
      refine good_ret ?_
      repeat (first | refine thenQ_ret ?_ | refine blockQ_ret ?_)
      refine ret_tmp (st := _) rfl (by conv => lhs; whnf) rfl ?_
      clear hK5
      exact fI (by simp only [dr, drP]; subst_vars; first | rw [if_pos (by omega), if_pos (by omega)] | rw [if_pos (by omega), if_neg (by omega)] | rw [if_neg (by omega), if_pos (by omega)] | rw [if_neg (by omega), if_neg (by omega)])
  · replace hb4 := dT hb4
    refine ev_nil (hK3 _ ?_); clear hK3
    refine good_condT rfl ?_
    refine good_seq fun K19 hK19 => ?_
    refine good_region rfl ?_
    refine ev_q rfl (q_move (by conv => lhs; whnf) ?_)
    refine ev_q rfl (q_neg rfl ?_)
    intro n20 hn20
    replace hn20 := neg64 hn20 (by omega) (by omega)
    refine ev_q rfl (q_assign (by conv => lhs; whnf) ?_)
    refine ev_nil (hK19 _ ?_); clear hK19
    refine good_region rfl ?_
    refine ev_q rfl (q_move (by conv => lhs; whnf) ?_)
    refine ev_q rfl (q_neg rfl ?_)
    intro n21 hn21
    replace hn21 := neg64 hn21 (by omega) (by omega)
    refine ev_q rfl (q_assign (by conv => lhs; whnf) ?_)
    refine ev_nil (hK2 _ ?_); clear hK2
    refine good_seq fun K22 hK22 => ?_
    refine good_seq fun K23 hK23 => ?_
    refine good_region rfl ?_
    refine ev_q rfl (q_move (by conv => lhs; whnf) ?_)
    refine ev_q rfl (q_int rfl rfl ?_)
    intro b24 hb24; cases b24
    · replace hb24 := dF hb24
      refine ev_nil (hK23 _ ?_); clear hK23
      refine good_condF rfl ?_
      refine good_skip (hK22 _ ?_); clear hK22
      refine good_seq fun K25 hK25 => ?_
      refine good_region rfl ?_
      refine ev_q rfl (q_move (by conv => lhs; whnf) ?_)
      refine ev_q rfl (q_int rfl rfl ?_)
      intro n26 hn26
      replace hn26 := in64 hn26 (by omega) (by omega)
      refine ev_q rfl (q_move (by conv => lhs; whnf) ?_)
      refine ev_q rfl (q_int rfl rfl ?_)
      intro n27 hn27
      replace hn27 := in64 hn27 (by omega) (by omega)
      refine ev_q rfl (q_move (by conv => lhs; whnf) ?_)
      refine ev_q rfl (q_int rfl rfl ?_)
      intro n28 hn28
      replace hn28 := in64 hn28 (by omega) (by omega)
      refine ev_q rfl (q_int rfl rfl ⟨by omega, ?_⟩)
      intro n29 hn29
      first | replace hn29 := quoE hn29 (by omega) (by omega) | replace hn29 := quoT hn29 (by omega) (by omega)
      refine ev_q rfl (q_assign (by conv => lhs; whnf) ?_)
      refine ev_nil (hK25 _ ?_); clear hK25
      refine good_ret ?_
      repeat (first | refine thenQ_ret ?_ | refine blockQ_ret ?_)
      refine ret_tmp (st := _) rfl (by conv => lhs; whnf) rfl ?_
      exact fI (by simp only [dr, drP]; subst_vars; first | rw [if_pos (by omega), if_pos (by omega)] | rw [if_pos (by omega), if_neg (by omega)] | rw [if_neg (by omega), if_pos (by omega)] | rw [if_neg (by omega), if_neg (by omega)])
    · replace hb24 := dT hb24
      refine ev_nil (hK23 _ ?_); clear hK23
      refine good_condT rfl ?_
      refine good_seq fun K30 hK30 => ?_
      refine good_region rfl ?_
      refine ev_q rfl (q_move (by conv => lhs; whnf) ?_)
      refine ev_q rfl (q_move (by conv => lhs; whnf) ?_)
      refine ev_q rfl (q_int rfl rfl ?_)
      intro n31 hn31
      replace hn31 := in64 hn31 (by omega) (by omega)
      refine ev_q rfl (q_int rfl rfl ?_)
      intro n32 hn32
      replace hn32 := in64 hn32 (by omega) (by omega)
      refine ev_q rfl (q_move (by conv => lhs; whnf) ?_)
      refine ev_q rfl (q_int rfl rfl ?_)
      intro n33 hn33
      replace hn33 := in64 hn33 (by omega) (by omega)
      refine ev_q rfl (q_int rfl rfl ⟨by omega, ?_⟩)
      intro n34 hn34
      first | replace hn34 := quoE hn34 (by omega) (by omega) | replace hn34 := quoT hn34 (by omega) (by omega)
      refine ev_q rfl (q_neg rfl ?_)
      intro n35 hn35
      have hd := divB (x := n32) (y := n33) (by omega) (by omega)
      rw [← hn34] at hd
      replace hn35 := neg64 hn35 (by omega) (by omega)
      refine ev_q rfl (q_assign (by conv => lhs; whnf) ?_)
      refine ev_nil (hK30 _ ?_); clear hK30
      refine good_ret ?_
      repeat (first | refine thenQ_ret ?_ | refine blockQ_ret ?_)
      refine ret_tmp (st := _) rfl (by conv => lhs; whnf) rfl ?_
      clear hK22
      exact fI (by simp only [dr, drP]; subst_vars; first | rw [if_pos (by omega), if_pos (by omega)] | rw [if_pos (by omega), if_neg (by omega)] | rw [if_neg (by omega), if_pos (by omega)] | rw [if_neg (by omega), if_neg (by omega)])

-- impl.abs
set_option maxRecDepth 20000 in
set_option maxHeartbeats 2000000 in
theorem D_impl_abs (a : Int) (h : -9223372036854775807 ≤ a ∧ a ≤ 9223372036854775807) : Den Try.prog 69 [.s (.int .i64 a)] (.s (.int .i64 ((a.natAbs : Int)))) := by
  refine den_of_good Try.func69 (by decide) rfl (Nat.le_of_ble_eq_true rfl) (Nat.le_of_ble_eq_true rfl) ?_
  refine good_seq fun K1 hK1 => ?_
  refine good_region rfl ?_
  refine ev_q rfl (q_assign (by conv => lhs; whnf) ?_)
  refine ev_nil (hK1 _ ?_); clear hK1
  refine good_seq fun K2 hK2 => ?_
  refine good_region rfl ?_
  refine ev_q rfl (q_move (by conv => lhs; whnf) ?_)
  refine ev_q rfl (q_move (by conv => lhs; whnf) ?_)
  refine ev_q rfl (q_neg rfl ?_)
  intro n3 hn3
  replace hn3 := neg64 hn3 (by omega) (by omega)
  refine ev_q rfl (q_max rfl rfl ?_)
  intro n4 hn4; simp only [mxI, mnI] at hn4
  refine ev_q rfl (q_assign (by conv => lhs; whnf) ?_)
  refine ev_nil (hK2 _ ?_); clear hK2
  refine good_ret ?_
  repeat (first | refine thenQ_ret ?_ | refine blockQ_ret ?_)
  refine ret_tmp (st := _) rfl (by conv => lhs; whnf) rfl ?_
  first | rfl | exact fI (by first | omega | grind) | (exfalso; first | omega | grind)

-- impl.divRound
set_option maxRecDepth 20000 in
set_option maxHeartbeats 2000000 in
theorem D_impl_divRound (a b : Int) (ha : -4000000000000000000 ≤ a ∧ a ≤ 4000000000000000000) (hb : b ≠ 0 ∧ -1000000000000000000 ≤ b ∧ b ≤ 1000000000000000000) : Den Try.prog 66 [.s (.int .i64 a), .s (.int .i64 b)] (.s (.int .i64 (dr a b))) := by
  refine den_of_good Try.func66 (by decide) rfl (Nat.le_of_ble_eq_true rfl) (Nat.le_of_ble_eq_true rfl) ?_
  refine good_seq fun K1 hK1 => ?_
  refine good_region rfl ?_
  refine ev_q rfl (q_assign (by conv => lhs; whnf) ?_)
  refine ev_nil (hK1 _ ?_); clear hK1
  refine good_seq fun K2 hK2 => ?_
  refine good_draw 9 hmix (by kernel_rfl) rfl ?_
  refine qo_q rfl (q_move (by conv => lhs; whnf) ?_)
  refine qo_q rfl (q_move (by conv => lhs; whnf) ?_)
  refine qo_q rfl (q_int rfl rfl ⟨by omega, ?_⟩)
  intro n3 hn3
  replace hn3 := quoT hn3 (by omega) (by omega)
  have ht := tdiv_le (a := a) (b := b)
  rw [← hn3] at ht
  refine qo_q rfl (q_move (by conv => lhs; whnf) ?_)
  refine qo_q rfl (q_move (by conv => lhs; whnf) ?_)
  refine qo_q rfl (q_int rfl rfl ⟨by omega, ?_⟩)
  intro n4 hn4
  have hm := tmod_lt' (a := a) (b := b) (by omega)
  rw [← hn4] at hm
  refine qo_q rfl (q_callI rfl rfl (rfl) (D_impl_abs _ (by omega)) ?_)
  intro n5 hn5
  refine qo_q rfl (q_assign (by conv => lhs; whnf) ?_)
  refine qo_q rfl (q_assign (by conv => lhs; whnf) ?_)
  refine qo_nil ?_
  refine ev_nil (hK2 _ ?_); clear hK2
  refine good_seq fun K6 hK6 => ?_
  refine good_seq fun K7 hK7 => ?_
  refine good_region rfl ?_
  refine ev_q rfl (q_move (by conv => lhs; whnf) ?_)
  refine ev_q rfl (q_move (by conv => lhs; whnf) ?_)
  refine ev_q rfl (q_callI rfl rfl (rfl) (D_impl_abs _ (by omega)) ?_)
  intro n8 hn8
  refine ev_q rfl (q_move (by conv => lhs; whnf) ?_)
  refine ev_q rfl (q_int rfl rfl ?_)
  intro n9 hn9
  replace hn9 := in64 hn9 (by omega) (by omega)
  refine ev_q rfl (q_int rfl rfl ?_)
  intro b10 hb10; cases b10
  · replace hb10 := dF hb10
    refine ev_nil (hK7 _ ?_); clear hK7
    refine good_condF rfl ?_
    refine good_skip (hK6 _ ?_); clear hK6
    refine good_seq fun K11 hK11 => ?_
    refine good_region rfl ?_
    refine ev_q rfl (q_move (by conv => lhs; whnf) ?_)
    refine ev_q rfl (q_assign (by conv => lhs; whnf) ?_)
    refine ev_nil (hK11 _ ?_); clear hK11
    refine good_ret ?_
    repeat (first | refine thenQ_ret ?_ | refine blockQ_ret ?_)
    refine ret_tmp (st := _) rfl (by conv => lhs; whnf) rfl ?_
    exact fI (by rw [dr_eq (q := n3) (r := n5) (by omega) hn3 (by rw [hn5, hn4])]; first | (rw [if_neg (by omega)]) | (rw [if_pos (by omega)]; first | (rw [if_pos (decide_eq_decide.2 (by omega))]; omega) | (rw [if_neg (fun h => by have := decide_eq_decide.1 h; omega)]; omega)))
  · replace hb10 := dT hb10
    refine ev_nil (hK7 _ ?_); clear hK7
    refine good_condT rfl ?_
    refine good_seq fun K12 hK12 => ?_
    refine good_seq fun K13 hK13 => ?_
    refine good_region rfl ?_
    refine ev_q rfl (q_move (by conv => lhs; whnf) ?_)
    refine ev_q rfl (q_int rfl rfl ?_)
    intro b14 hb14; cases b14
    · replace hb14 := dF hb14
      refine ev_q rfl (q_move (by conv => lhs; whnf) ?_)
      refine ev_q rfl (q_int rfl rfl ?_)
      intro b15 hb15; cases b15
      · replace hb15 := dF hb15
        refine ev_q rfl (q_beq tB4 rfl rfl ?_)
        intro b16 hb16; replace hb16 : b16 = true := hb16; subst hb16
        refine ev_nil (hK13 _ ?_); clear hK13
        refine good_condT rfl ?_
        refine good_seq fun K17 hK17 => ?_
        refine good_region rfl ?_
        refine ev_q rfl (q_move (by conv => lhs; whnf) ?_)
        refine ev_q rfl (q_int rfl rfl ?_)
        intro n18 hn18
        replace hn18 := in64 hn18 (by omega) (by omega)
        refine ev_q rfl (q_assign (by conv => lhs; whnf) ?_)
        refine ev_nil (hK17 _ ?_); clear hK17
        refine good_ret ?_
        repeat (first | refine thenQ_ret ?_ | refine blockQ_ret ?_)
        refine ret_tmp (st := _) rfl (by conv => lhs; whnf) rfl ?_
        clear hK6 hK12
        exact fI (by rw [dr_eq (q := n3) (r := n5) (by omega) hn3 (by rw [hn5, hn4])]; first | (rw [if_neg (by omega)]) | (rw [if_pos (by omega)]; first | (rw [if_pos (decide_eq_decide.2 (by omega))]; omega) | (rw [if_neg (fun h => by have := decide_eq_decide.1 h; omega)]; omega)))
      · replace hb15 := dT hb15
        refine ev_q rfl (q_beq tB4 rfl rfl ?_)
        intro b19 hb19; replace hb19 : b19 = false := hb19; subst hb19
        refine ev_nil (hK13 _ ?_); clear hK13
        refine good_condF rfl ?_
        refine good_skip (hK12 _ ?_); clear hK12
        refine good_seq fun K20 hK20 => ?_
        refine good_region rfl ?_
        refine ev_q rfl (q_move (by conv => lhs; whnf) ?_)
        refine ev_q rfl (q_int rfl rfl ?_)
        intro n21 hn21
        replace hn21 := in64 hn21 (by omega) (by omega)
        refine ev_q rfl (q_assign (by conv => lhs; whnf) ?_)
        refine ev_nil (hK20 _ ?_); clear hK20
        refine good_ret ?_
        repeat (first | refine thenQ_ret ?_ | refine blockQ_ret ?_)
        refine ret_tmp (st := _) rfl (by conv => lhs; whnf) rfl ?_
        clear hK6
        exact fI (by rw [dr_eq (q := n3) (r := n5) (by omega) hn3 (by rw [hn5, hn4])]; first | (rw [if_neg (by omega)]) | (rw [if_pos (by omega)]; first | (rw [if_pos (decide_eq_decide.2 (by omega))]; omega) | (rw [if_neg (fun h => by have := decide_eq_decide.1 h; omega)]; omega)))
    · replace hb14 := dT hb14
      refine ev_q rfl (q_move (by conv => lhs; whnf) ?_)
      refine ev_q rfl (q_int rfl rfl ?_)
      intro b22 hb22; cases b22
      · replace hb22 := dF hb22
        refine ev_q rfl (q_beq tB4 rfl rfl ?_)
        intro b23 hb23; replace hb23 : b23 = false := hb23; subst hb23
        refine ev_nil (hK13 _ ?_); clear hK13
        refine good_condF rfl ?_
        refine good_skip (hK12 _ ?_); clear hK12
        refine good_seq fun K24 hK24 => ?_
        refine good_region rfl ?_
        refine ev_q rfl (q_move (by conv => lhs; whnf) ?_)
        refine ev_q rfl (q_int rfl rfl ?_)
        intro n25 hn25
        replace hn25 := in64 hn25 (by omega) (by omega)
        refine ev_q rfl (q_assign (by conv => lhs; whnf) ?_)
        refine ev_nil (hK24 _ ?_); clear hK24
        refine good_ret ?_
        repeat (first | refine thenQ_ret ?_ | refine blockQ_ret ?_)
        refine ret_tmp (st := _) rfl (by conv => lhs; whnf) rfl ?_
        clear hK6
        exact fI (by rw [dr_eq (q := n3) (r := n5) (by omega) hn3 (by rw [hn5, hn4])]; first | (rw [if_neg (by omega)]) | (rw [if_pos (by omega)]; first | (rw [if_pos (decide_eq_decide.2 (by omega))]; omega) | (rw [if_neg (fun h => by have := decide_eq_decide.1 h; omega)]; omega)))
      · replace hb22 := dT hb22
        refine ev_q rfl (q_beq tB4 rfl rfl ?_)
        intro b26 hb26; replace hb26 : b26 = true := hb26; subst hb26
        refine ev_nil (hK13 _ ?_); clear hK13
        refine good_condT rfl ?_
        refine good_seq fun K27 hK27 => ?_
        refine good_region rfl ?_
        refine ev_q rfl (q_move (by conv => lhs; whnf) ?_)
        refine ev_q rfl (q_int rfl rfl ?_)
        intro n28 hn28
        replace hn28 := in64 hn28 (by omega) (by omega)
        refine ev_q rfl (q_assign (by conv => lhs; whnf) ?_)
        refine ev_nil (hK27 _ ?_); clear hK27
        refine good_ret ?_
        repeat (first | refine thenQ_ret ?_ | refine blockQ_ret ?_)
        refine ret_tmp (st := _) rfl (by conv => lhs; whnf) rfl ?_
        clear hK6 hK12
        exact fI (by rw [dr_eq (q := n3) (r := n5) (by omega) hn3 (by rw [hn5, hn4])]; first | (rw [if_neg (by omega)]) | (rw [if_pos (by omega)]; first | (rw [if_pos (decide_eq_decide.2 (by omega))]; omega) | (rw [if_neg (fun h => by have := decide_eq_decide.1 h; omega)]; omega)))

theorem blB {x0 y0 x1 y1 x : Int} (h0 : -10000000 ≤ x0 ∧ x0 ≤ 10000000) (h1 : -10000000 ≤ y0 ∧ y0 ≤ 10000000) (h2 : -10000000 ≤ x1 ∧ x1 ≤ 10000000) (h3 : -10000000 ≤ y1 ∧ y1 ≤ 10000000) (h4 : x0 < x) (h5 : x < x1) : (-400000000000000 ≤ (y1 - y0) * (x - x0) ∧ (y1 - y0) * (x - x0) ≤ 400000000000000) ∧ (-400000000000001 ≤ dr ((y1 - y0) * (x - x0)) (x1 - x0) ∧ dr ((y1 - y0) * (x - x0)) (x1 - x0) ≤ 400000000000001) := by
  have a1 := mulS (a := y1 - y0) (b := x - x0) (A := 20000000) (B := 20000000) (by omega) (by omega) (by omega) (by omega)
  have a2 := dr_bound (a := (y1 - y0) * (x - x0)) (b := x1 - x0) (by omega)
  exact ⟨by omega, by omega⟩

-- impl.blend
set_option maxRecDepth 20000 in
set_option maxHeartbeats 2000000 in
theorem D_impl_blend (x0 y0 x1 y1 x : Int) (h0 : -10000000 ≤ x0 ∧ x0 ≤ 10000000) (h1 : -10000000 ≤ y0 ∧ y0 ≤ 10000000) (h2 : -10000000 ≤ x1 ∧ x1 ≤ 10000000) (h3 : -10000000 ≤ y1 ∧ y1 ≤ 10000000) : Den Try.prog 133 [.s (.int .i64 x0), .s (.int .i64 y0), .s (.int .i64 x1), .s (.int .i64 y1), .s (.int .i64 x)] (.s (.int .i64 (bl x0 y0 x1 y1 x))) := by
  refine den_of_good Try.func133 (by decide) rfl (Nat.le_of_ble_eq_true rfl) (Nat.le_of_ble_eq_true rfl) ?_
  refine good_seq fun K1 hK1 => ?_
  refine good_region rfl ?_
  refine ev_q rfl (q_assign (by conv => lhs; whnf) ?_)
  refine ev_nil (hK1 _ ?_); clear hK1
  refine good_seq fun K2 hK2 => ?_
  refine good_block ?_
  refine good_seq fun K3 hK3 => ?_
  refine good_region rfl ?_
  refine ev_q rfl (q_move (by conv => lhs; whnf) ?_)
  refine ev_q rfl (q_move (by conv => lhs; whnf) ?_)
  refine ev_q rfl (q_int rfl rfl ?_)
  intro b4 hb4; cases b4
  · replace hb4 := dF hb4
    refine ev_q rfl (q_move (by conv => lhs; whnf) ?_)
    refine ev_q rfl (q_move (by conv => lhs; whnf) ?_)
    refine ev_q rfl (q_move (by conv => lhs; whnf) ?_)
    refine ev_q rfl (q_int rfl rfl ?_)
    intro b5 hb5; cases b5
    · replace hb5 := dF hb5
      refine ev_q rfl (q_pickF rfl (by conv => lhs; whnf) ?_)
      refine ev_q rfl (q_assign (by conv => lhs; whnf) ?_)
      refine ev_nil (hK3 _ ?_); clear hK3
      refine good_condF rfl ?_
      refine good_seq fun K6 hK6 => ?_
      refine good_region rfl ?_
      refine ev_q rfl (q_move (by conv => lhs; whnf) ?_)
      refine ev_q rfl (q_move (by conv => lhs; whnf) ?_)
      refine ev_q rfl (q_int rfl rfl ?_)
      intro b7 hb7; cases b7
      · replace hb7 := dF hb7
        refine ev_q rfl (q_assign (by conv => lhs; whnf) ?_)
        refine ev_nil (hK6 _ ?_); clear hK6
        refine good_condF rfl ?_
        refine good_skip (hK2 _ ?_); clear hK2
        refine good_seq fun K8 hK8 => ?_
        refine good_region rfl ?_
        refine ev_q rfl (q_move (by conv => lhs; whnf) ?_)
        refine ev_q rfl (q_move (by conv => lhs; whnf) ?_)
        refine ev_q rfl (q_move (by conv => lhs; whnf) ?_)
        refine ev_q rfl (q_int rfl rfl ?_)
        intro n9 hn9
        have hb := blB h0 h1 h2 h3 (x := x) (by omega) (by omega)
        replace hn9 := in64 hn9 (by omega) (by omega)
        refine ev_q rfl (q_move (by conv => lhs; whnf) ?_)
        refine ev_q rfl (q_move (by conv => lhs; whnf) ?_)
        refine ev_q rfl (q_int rfl rfl ?_)
        intro n10 hn10
        replace hn10 := in64 hn10 (by omega) (by omega)
        refine ev_q rfl (q_int rfl rfl ?_)
        intro n11 hn11
        rw [hn9, hn10] at hn11
        replace hn11 := in64 hn11 (by omega) (by omega)
        refine ev_q rfl (q_move (by conv => lhs; whnf) ?_)
        refine ev_q rfl (q_move (by conv => lhs; whnf) ?_)
        refine ev_q rfl (q_int rfl rfl ?_)
        intro n12 hn12
        replace hn12 := in64 hn12 (by omega) (by omega)
        refine ev_q rfl (q_callI rfl rfl (rfl) (D_impl_divRound _ _ (by omega) (by omega)) ?_)
        intro n13 hn13
        rw [hn11, hn12] at hn13
        refine ev_q rfl (q_int rfl rfl ?_)
        intro n14 hn14
        replace hn14 := in64 hn14 (by omega) (by omega)
        refine ev_q rfl (q_assign (by conv => lhs; whnf) ?_)
        refine ev_nil (hK8 _ ?_); clear hK8
        refine good_ret ?_
        repeat (first | refine thenQ_ret ?_ | refine blockQ_ret ?_)
        refine ret_tmp (st := _) rfl (by conv => lhs; whnf) rfl ?_
        exact fI (by unfold bl; first | rw [if_pos (by omega)] | rw [if_neg (by omega), if_pos (by omega)] | (rw [if_neg (by omega), if_neg (by omega)]; omega))
      · replace hb7 := dT hb7
        refine ev_q rfl (q_assign (by conv => lhs; whnf) ?_)
        refine ev_nil (hK6 _ ?_); clear hK6
        refine good_condT rfl ?_
        refine good_seq fun K15 hK15 => ?_
        refine good_region rfl ?_
        refine ev_q rfl (q_move (by conv => lhs; whnf) ?_)
        refine ev_q rfl (q_assign (by conv => lhs; whnf) ?_)
        refine ev_nil (hK15 _ ?_); clear hK15
        refine good_ret ?_
        repeat (first | refine thenQ_ret ?_ | refine blockQ_ret ?_)
        refine ret_tmp (st := _) rfl (by conv => lhs; whnf) rfl ?_
        clear hK2
        exact fI (by unfold bl; first | rw [if_pos (by omega)] | rw [if_neg (by omega), if_pos (by omega)] | (rw [if_neg (by omega), if_neg (by omega)]; omega))
    · replace hb5 := dT hb5
      refine ev_q rfl (q_pickF rfl (by conv => lhs; whnf) ?_)
      refine ev_q rfl (q_assign (by conv => lhs; whnf) ?_)
      refine ev_nil (hK3 _ ?_); clear hK3
      refine good_condT rfl ?_
      refine good_seq fun K16 hK16 => ?_
      refine good_region rfl ?_
      refine ev_q rfl (q_move (by conv => lhs; whnf) ?_)
      refine ev_q rfl (q_assign (by conv => lhs; whnf) ?_)
      refine ev_nil (hK16 _ ?_); clear hK16
      refine good_ret ?_
      repeat (first | refine thenQ_ret ?_ | refine blockQ_ret ?_)
      refine ret_tmp (st := _) rfl (by conv => lhs; whnf) rfl ?_
      clear hK2
      exact fI (by unfold bl; first | rw [if_pos (by omega)] | rw [if_neg (by omega), if_pos (by omega)] | (rw [if_neg (by omega), if_neg (by omega)]; omega))
  · replace hb4 := dT hb4
    refine ev_q rfl (q_move (by conv => lhs; whnf) ?_)
    refine ev_skip rfl ?_
    refine ev_skip rfl ?_
    refine ev_skip rfl ?_
    refine ev_q rfl (q_pickT rfl (by conv => lhs; whnf) ?_)
    refine ev_q rfl (q_assign (by conv => lhs; whnf) ?_)
    refine ev_nil (hK3 _ ?_); clear hK3
    refine good_condT rfl ?_
    refine good_seq fun K17 hK17 => ?_
    refine good_region rfl ?_
    refine ev_q rfl (q_move (by conv => lhs; whnf) ?_)
    refine ev_q rfl (q_assign (by conv => lhs; whnf) ?_)
    refine ev_nil (hK17 _ ?_); clear hK17
    refine good_ret ?_
    repeat (first | refine thenQ_ret ?_ | refine blockQ_ret ?_)
    refine ret_tmp (st := _) rfl (by conv => lhs; whnf) rfl ?_
    clear hK2
    exact fI (by unfold bl; first | rw [if_pos (by omega)] | rw [if_neg (by omega), if_pos (by omega)] | (rw [if_neg (by omega), if_neg (by omega)]; omega))

-- impl.waterOk
set_option maxRecDepth 20000 in
set_option maxHeartbeats 2000000 in
theorem D_impl_waterOk (a : Int)  : Den Try.prog 107 [.s (.int .i64 a)] (.s (.bool (decide (0 ≤ a ∧ a ≤ 18000)))) := by
  refine den_of_good Try.func107 (by decide) rfl (Nat.le_of_ble_eq_true rfl) (Nat.le_of_ble_eq_true rfl) ?_
  refine good_seq fun K1 hK1 => ?_
  refine good_region rfl ?_
  refine ev_q rfl (q_assign (by conv => lhs; whnf) ?_)
  refine ev_nil (hK1 _ ?_); clear hK1
  refine good_seq fun K2 hK2 => ?_
  refine good_region rfl ?_
  refine ev_q rfl (q_move (by conv => lhs; whnf) ?_)
  refine ev_q rfl (q_callB rfl rfl (rfl) (D_impl_within ..) ?_)
  intro b3 hb3; cases b3
  · first | replace hb3 := dF hb3 | skip
    refine ev_q rfl (q_assign (by conv => lhs; whnf) ?_)
    refine ev_nil (hK2 _ ?_); clear hK2
    refine good_ret ?_
    repeat (first | refine thenQ_ret ?_ | refine blockQ_ret ?_)
    refine ret_tmp (st := _) rfl (by conv => lhs; whnf) rfl ?_
    first | rfl | exact fT (by first | omega | grind) | exact fF (by first | omega | grind) | exact fT' (by first | omega | grind) | (exfalso; first | omega | grind)
  · first | replace hb3 := dT hb3 | skip
    refine ev_q rfl (q_assign (by conv => lhs; whnf) ?_)
    refine ev_nil (hK2 _ ?_); clear hK2
    refine good_ret ?_
    repeat (first | refine thenQ_ret ?_ | refine blockQ_ret ?_)
    refine ret_tmp (st := _) rfl (by conv => lhs; whnf) rfl ?_
    first | rfl | exact fT (by first | omega | grind) | exact fF (by first | omega | grind) | exact fT' (by first | omega | grind) | (exfalso; first | omega | grind)

-- impl.waterDensity
set_option maxRecDepth 20000 in
set_option maxHeartbeats 2000000 in
theorem D_impl_waterDensity (x : Int) (hx : 0 ≤ x ∧ x ≤ 18000) : Den Try.prog 108 [.s (.int .i64 x)] (.s (.int .i64 (dens x))) := by
  have hkb := dK_bd hx.1
  have hdd := dA_dec hkb.1 hkb.2
  have hg0 := dnT_get (k := dK x) (by omega) (by omega)
  have hg1 := dnT_get (k := dK x + 1) (by omega) (by omega)
  refine den_of_good Try.func108 (by decide) rfl (Nat.le_of_ble_eq_true rfl) (Nat.le_of_ble_eq_true rfl) ?_
  refine good_seq fun K1 hK1 => ?_
  refine good_region rfl ?_
  refine ev_q rfl (q_assign (by conv => lhs; whnf) ?_)
  refine ev_nil (hK1 _ ?_); clear hK1
  refine good_seq fun K2 hK2 => ?_
  refine good_region rfl ?_
  refine ev_k rfl (k_build (cs := dnC) zA135 pl135 (by kernel_rfl) ?_)
  refine ev_k rfl (k_alloc zA135 rfl ?_)
  refine ev_k rfl (k_store sz135 rfl (by conv => lhs; whnf) rfl rfl rfl (Nat.le_of_ble_eq_true rfl) rfl ?_)
  refine ev_nil (hK2 _ ?_); clear hK2
  refine good_seq fun K3 hK3 => ?_
  refine good_region rfl ?_
  refine ev_q rfl (q_move (by conv => lhs; whnf) ?_)
  refine ev_q rfl (q_int rfl rfl ⟨by omega, ?_⟩)
  intro n4 hn4
  first | replace hn4 := quoE hn4 (by omega) (by omega) | replace hn4 := quoT hn4 (by omega) (by omega)
  refine ev_q rfl (q_min rfl rfl ?_)
  intro n5 hn5; simp only [mxI, mnI] at hn5
  refine ev_q rfl (q_assign (by conv => lhs; whnf) ?_)
  refine ev_nil (hK3 _ ?_); clear hK3
  refine good_seq fun K6 hK6 => ?_
  refine good_draw 15 hmix (by kernel_rfl) rfl ?_
  have ek : n5 = dK x := by (unfold dK; first | omega | (split <;> omega))
  refine qo_q rfl (q_move (by conv => lhs; whnf) ?_)
  refine qo_q rfl (q_int rfl rfl ?_)
  intro n7 hn7
  replace hn7 := in64 hn7 (by omega) (by omega)
  refine qo_q rfl (q_move (by conv => lhs; whnf) ?_)
  refine qo_q rfl (q_idxA tEn135 tArr135 rfl rfl (by omega) (by omega) rfl ?_)
  refine qo_q rfl (q_loadI tA2 rfl rfl (dn_get hg0 (by omega)) ?_)
  refine qo_q rfl (q_move (by conv => lhs; whnf) ?_)
  refine qo_q rfl (q_int rfl rfl ?_)
  intro n8 hn8
  replace hn8 := in64 hn8 (by omega) (by omega)
  refine qo_q rfl (q_int rfl rfl ?_)
  intro n9 hn9
  replace hn9 := in64 hn9 (by omega) (by omega)
  refine qo_q rfl (q_move (by conv => lhs; whnf) ?_)
  refine qo_q rfl (q_int rfl rfl ?_)
  intro n10 hn10
  replace hn10 := in64 hn10 (by omega) (by omega)
  refine qo_q rfl (q_idxA tEn135 tArr135 rfl rfl (by omega) (by omega) rfl ?_)
  refine qo_q rfl (q_loadI tA2 rfl rfl (dn_get hg1 (by omega)) ?_)
  refine qo_q rfl (q_move (by conv => lhs; whnf) ?_)
  refine qo_q rfl (q_callI rfl rfl (rfl) (D_impl_blend _ _ _ _ _ (by omega) (by omega) (by omega) (by omega)) ?_)
  intro n11 hn11
  refine qo_q rfl (q_assign (by conv => lhs; whnf) ?_)
  refine qo_nil ?_
  refine ev_nil (hK6 _ ?_); clear hK6
  refine good_ret ?_
  repeat (first | refine thenQ_ret ?_ | refine blockQ_ret ?_)
  refine ret_tmp (st := _) rfl (by conv => lhs; whnf) rfl ?_
  exact fI (by rw [hn11]; unfold dens; first | (rw [hn7, hn9, hn8, ek]; done) | grind)

-- impl.ExpandedVolume
set_option maxRecDepth 20000 in
set_option maxHeartbeats 2000000 in
theorem D_impl_ExpandedVolume (l f t : Int)  : Den Try.prog 48 [.s (.int .i64 l), .s (.int .i64 f), .s (.int .i64 t)] (.tup [.s (.int .i64 (if evO l f t then dr (l * dens f) (dens t) else 0)), .s (.int .i64 (if evO l f t then 0 else 2))]) := by
  refine den_of_good Try.func48 (by decide) rfl (Nat.le_of_ble_eq_true rfl) (Nat.le_of_ble_eq_true rfl) ?_
  refine good_seq fun K1 hK1 => ?_
  refine good_region rfl ?_
  refine ev_q rfl (q_assign (by conv => lhs; whnf) ?_)
  refine ev_q rfl (q_assign (by conv => lhs; whnf) ?_)
  refine ev_nil (hK1 _ ?_); clear hK1
  refine good_seq fun K2 hK2 => ?_
  refine good_seq fun K3 hK3 => ?_
  refine good_region rfl ?_
  refine ev_q rfl (q_move (by conv => lhs; whnf) ?_)
  refine ev_q rfl (q_callB rfl rfl (rfl) (D_impl_within ..) ?_)
  intro b4 hb4; cases b4
  · first | replace hb4 := dF hb4 | skip
    refine ev_q rfl (q_not rfl rfl ?_)
    refine ev_q rfl (q_move (by conv => lhs; whnf) ?_)
    refine ev_skip rfl ?_
    refine ev_skip rfl ?_
    refine ev_skip rfl ?_
    refine ev_q rfl (q_pickT rfl (by conv => lhs; whnf) ?_)
    refine ev_q rfl (q_move (by conv => lhs; whnf) ?_)
    refine ev_skip rfl ?_
    refine ev_skip rfl ?_
    refine ev_skip rfl ?_
    refine ev_q rfl (q_pickT rfl (by conv => lhs; whnf) ?_)
    refine ev_nil (hK3 _ ?_); clear hK3
    refine good_condT rfl ?_
    refine good_seq fun K5 hK5 => ?_
    refine good_region rfl ?_
    refine ev_q rfl (q_assign (by conv => lhs; whnf) ?_)
    refine ev_q rfl (q_assign (by conv => lhs; whnf) ?_)
    refine ev_nil (hK5 _ ?_); clear hK5
    refine good_ret ?_
    repeat (first | refine thenQ_ret ?_ | refine blockQ_ret ?_)
    refine ret_many rfl ?_
    refine res_tmp (by conv => lhs; whnf) rfl ?_
    refine res_tmp (by conv => lhs; whnf) rfl ?_
    refine res_nil ?_
    clear hK2
    first | (have e : evO l f t := ⟨by omega, by omega, by omega⟩; exact fTup1 (fI (by rw [if_pos e]; grind)) (fTup1 (fI (by rw [if_pos e])) rfl)) | (have e : ¬ evO l f t := (fun h => by have h1 := h.1; have h2 := h.2.1; have h3 := h.2.2; omega); exact fTup1 (fI (by rw [if_neg e])) (fTup1 (fI (by rw [if_neg e])) rfl))
  · first | replace hb4 := dT hb4 | skip
    refine ev_q rfl (q_not rfl rfl ?_)
    refine ev_q rfl (q_move (by conv => lhs; whnf) ?_)
    refine ev_q rfl (q_move (by conv => lhs; whnf) ?_)
    refine ev_q rfl (q_callB rfl rfl (rfl) (D_impl_waterOk ..) ?_)
    intro b6 hb6; cases b6
    · first | replace hb6 := dF hb6 | skip
      refine ev_q rfl (q_not rfl rfl ?_)
      refine ev_q rfl (q_pickF rfl (by conv => lhs; whnf) ?_)
      refine ev_q rfl (q_move (by conv => lhs; whnf) ?_)
      refine ev_skip rfl ?_
      refine ev_skip rfl ?_
      refine ev_skip rfl ?_
      refine ev_q rfl (q_pickT rfl (by conv => lhs; whnf) ?_)
      refine ev_nil (hK3 _ ?_); clear hK3
      refine good_condT rfl ?_
      refine good_seq fun K7 hK7 => ?_
      refine good_region rfl ?_
      refine ev_q rfl (q_assign (by conv => lhs; whnf) ?_)
      refine ev_q rfl (q_assign (by conv => lhs; whnf) ?_)
      refine ev_nil (hK7 _ ?_); clear hK7
      refine good_ret ?_
      repeat (first | refine thenQ_ret ?_ | refine blockQ_ret ?_)
      refine ret_many rfl ?_
      refine res_tmp (by conv => lhs; whnf) rfl ?_
      refine res_tmp (by conv => lhs; whnf) rfl ?_
      refine res_nil ?_
      clear hK2
      first | (have e : evO l f t := ⟨by omega, by omega, by omega⟩; exact fTup1 (fI (by rw [if_pos e]; grind)) (fTup1 (fI (by rw [if_pos e])) rfl)) | (have e : ¬ evO l f t := (fun h => by have h1 := h.1; have h2 := h.2.1; have h3 := h.2.2; omega); exact fTup1 (fI (by rw [if_neg e])) (fTup1 (fI (by rw [if_neg e])) rfl))
    · first | replace hb6 := dT hb6 | skip
      refine ev_q rfl (q_not rfl rfl ?_)
      refine ev_q rfl (q_pickF rfl (by conv => lhs; whnf) ?_)
      refine ev_q rfl (q_move (by conv => lhs; whnf) ?_)
      refine ev_q rfl (q_move (by conv => lhs; whnf) ?_)
      refine ev_q rfl (q_callB rfl rfl (rfl) (D_impl_waterOk ..) ?_)
      intro b8 hb8; cases b8
      · first | replace hb8 := dF hb8 | skip
        refine ev_q rfl (q_not rfl rfl ?_)
        refine ev_q rfl (q_pickF rfl (by conv => lhs; whnf) ?_)
        refine ev_nil (hK3 _ ?_); clear hK3
        refine good_condT rfl ?_
        refine good_seq fun K9 hK9 => ?_
        refine good_region rfl ?_
        refine ev_q rfl (q_assign (by conv => lhs; whnf) ?_)
        refine ev_q rfl (q_assign (by conv => lhs; whnf) ?_)
        refine ev_nil (hK9 _ ?_); clear hK9
        refine good_ret ?_
        repeat (first | refine thenQ_ret ?_ | refine blockQ_ret ?_)
        refine ret_many rfl ?_
        refine res_tmp (by conv => lhs; whnf) rfl ?_
        refine res_tmp (by conv => lhs; whnf) rfl ?_
        refine res_nil ?_
        clear hK2
        first | (have e : evO l f t := ⟨by omega, by omega, by omega⟩; exact fTup1 (fI (by rw [if_pos e]; grind)) (fTup1 (fI (by rw [if_pos e])) rfl)) | (have e : ¬ evO l f t := (fun h => by have h1 := h.1; have h2 := h.2.1; have h3 := h.2.2; omega); exact fTup1 (fI (by rw [if_neg e])) (fTup1 (fI (by rw [if_neg e])) rfl))
      · first | replace hb8 := dT hb8 | skip
        refine ev_q rfl (q_not rfl rfl ?_)
        refine ev_q rfl (q_pickF rfl (by conv => lhs; whnf) ?_)
        refine ev_nil (hK3 _ ?_); clear hK3
        refine good_condF rfl ?_
        refine good_skip (hK2 _ ?_); clear hK2
        refine good_seq fun K10 hK10 => ?_
        refine good_region rfl ?_
        refine ev_q rfl (q_move (by conv => lhs; whnf) ?_)
        refine ev_q rfl (q_move (by conv => lhs; whnf) ?_)
        refine ev_q rfl (q_callI rfl rfl (rfl) (D_impl_waterDensity _ (by omega)) ?_)
        intro n11 hn11
        have hf := dens_bd (t := f) (by omega)
        have ht := dens_bd (t := t) (by omega)
        have hm := mulL (l := l) (d := dens f) (by omega) (by omega)
        refine ev_q rfl (q_int rfl rfl ?_)
        intro n12 hn12
        rw [hn11] at hn12
        replace hn12 := in64 hn12 (by omega) (by omega)
        refine ev_q rfl (q_move (by conv => lhs; whnf) ?_)
        refine ev_q rfl (q_callI rfl rfl (rfl) (D_impl_waterDensity _ (by omega)) ?_)
        intro n13 hn13
        refine ev_q rfl (q_callI rfl rfl (rfl) (D_impl_divRound _ _ (by omega) (by omega)) ?_)
        intro n14 hn14
        refine ev_q rfl (q_assign (by conv => lhs; whnf) ?_)
        refine ev_q rfl (q_assign (by conv => lhs; whnf) ?_)
        refine ev_nil (hK10 _ ?_); clear hK10
        refine good_ret ?_
        repeat (first | refine thenQ_ret ?_ | refine blockQ_ret ?_)
        refine ret_many rfl ?_
        refine res_tmp (by conv => lhs; whnf) rfl ?_
        refine res_tmp (by conv => lhs; whnf) rfl ?_
        refine res_nil ?_
        first | (have e : evO l f t := ⟨by omega, by omega, by omega⟩; exact fTup1 (fI (by rw [if_pos e]; grind)) (fTup1 (fI (by rw [if_pos e])) rfl)) | (have e : ¬ evO l f t := (fun h => by have h1 := h.1; have h2 := h.2.1; have h3 := h.2.2; omega); exact fTup1 (fI (by rw [if_neg e])) (fTup1 (fI (by rw [if_neg e])) rfl))

-- impl.HeadPressure
set_option maxRecDepth 20000 in
set_option maxHeartbeats 2000000 in
theorem D_impl_HeadPressure (h t : Int)  : Den Try.prog 50 [.s (.int .i64 h), .s (.int .i64 t)] (.tup [.s (.int .i64 (if hpO h t then dr (dens t * h * 981) 1000000 else 0)), .s (.int .i64 (if hpO h t then 0 else 2))]) := by
  refine den_of_good Try.func50 (by decide) rfl (Nat.le_of_ble_eq_true rfl) (Nat.le_of_ble_eq_true rfl) ?_
  refine good_seq fun K1 hK1 => ?_
  refine good_region rfl ?_
  refine ev_q rfl (q_assign (by conv => lhs; whnf) ?_)
  refine ev_q rfl (q_assign (by conv => lhs; whnf) ?_)
  refine ev_nil (hK1 _ ?_); clear hK1
  refine good_seq fun K2 hK2 => ?_
  refine good_seq fun K3 hK3 => ?_
  refine good_region rfl ?_
  refine ev_q rfl (q_move (by conv => lhs; whnf) ?_)
  refine ev_q rfl (q_callB rfl rfl (rfl) (D_impl_within ..) ?_)
  intro b4 hb4; cases b4
  · first | replace hb4 := dF hb4 | skip
    refine ev_q rfl (q_not rfl rfl ?_)
    refine ev_q rfl (q_move (by conv => lhs; whnf) ?_)
    refine ev_skip rfl ?_
    refine ev_skip rfl ?_
    refine ev_skip rfl ?_
    refine ev_q rfl (q_pickT rfl (by conv => lhs; whnf) ?_)
    refine ev_nil (hK3 _ ?_); clear hK3
    refine good_condT rfl ?_
    refine good_seq fun K5 hK5 => ?_
    refine good_region rfl ?_
    refine ev_q rfl (q_assign (by conv => lhs; whnf) ?_)
    refine ev_q rfl (q_assign (by conv => lhs; whnf) ?_)
    refine ev_nil (hK5 _ ?_); clear hK5
    refine good_ret ?_
    repeat (first | refine thenQ_ret ?_ | refine blockQ_ret ?_)
    refine ret_many rfl ?_
    refine res_tmp (by conv => lhs; whnf) rfl ?_
    refine res_tmp (by conv => lhs; whnf) rfl ?_
    refine res_nil ?_
    clear hK2
    first | (have e : hpO h t := ⟨by omega, by omega⟩; exact fTup1 (fI (by rw [if_pos e]; grind)) (fTup1 (fI (by rw [if_pos e])) rfl)) | (have e : ¬ hpO h t := (fun h => by have h1 := h.1; have h2 := h.2; omega); exact fTup1 (fI (by rw [if_neg e])) (fTup1 (fI (by rw [if_neg e])) rfl))
  · first | replace hb4 := dT hb4 | skip
    refine ev_q rfl (q_not rfl rfl ?_)
    refine ev_q rfl (q_move (by conv => lhs; whnf) ?_)
    refine ev_q rfl (q_move (by conv => lhs; whnf) ?_)
    refine ev_q rfl (q_callB rfl rfl (rfl) (D_impl_waterOk ..) ?_)
    intro b6 hb6; cases b6
    · first | replace hb6 := dF hb6 | skip
      refine ev_q rfl (q_not rfl rfl ?_)
      refine ev_q rfl (q_pickF rfl (by conv => lhs; whnf) ?_)
      refine ev_nil (hK3 _ ?_); clear hK3
      refine good_condT rfl ?_
      refine good_seq fun K7 hK7 => ?_
      refine good_region rfl ?_
      refine ev_q rfl (q_assign (by conv => lhs; whnf) ?_)
      refine ev_q rfl (q_assign (by conv => lhs; whnf) ?_)
      refine ev_nil (hK7 _ ?_); clear hK7
      refine good_ret ?_
      repeat (first | refine thenQ_ret ?_ | refine blockQ_ret ?_)
      refine ret_many rfl ?_
      refine res_tmp (by conv => lhs; whnf) rfl ?_
      refine res_tmp (by conv => lhs; whnf) rfl ?_
      refine res_nil ?_
      clear hK2
      first | (have e : hpO h t := ⟨by omega, by omega⟩; exact fTup1 (fI (by rw [if_pos e]; grind)) (fTup1 (fI (by rw [if_pos e])) rfl)) | (have e : ¬ hpO h t := (fun h => by have h1 := h.1; have h2 := h.2; omega); exact fTup1 (fI (by rw [if_neg e])) (fTup1 (fI (by rw [if_neg e])) rfl))
    · first | replace hb6 := dT hb6 | skip
      refine ev_q rfl (q_not rfl rfl ?_)
      refine ev_q rfl (q_pickF rfl (by conv => lhs; whnf) ?_)
      refine ev_nil (hK3 _ ?_); clear hK3
      refine good_condF rfl ?_
      refine good_skip (hK2 _ ?_); clear hK2
      refine good_seq fun K8 hK8 => ?_
      refine good_region rfl ?_
      refine ev_q rfl (q_move (by conv => lhs; whnf) ?_)
      refine ev_q rfl (q_callI rfl rfl (rfl) (D_impl_waterDensity _ (by omega)) ?_)
      intro n9 hn9
      refine ev_q rfl (q_move (by conv => lhs; whnf) ?_)
      have ht := dens_bd (t := t) (by omega)
      have hm := mulH (h := h) (d := dens t) (by omega) (by omega)
      refine ev_q rfl (q_int rfl rfl ?_)
      intro n10 hn10
      rw [hn9] at hn10
      replace hn10 := in64 hn10 (by omega) (by omega)
      refine ev_q rfl (q_int rfl rfl ?_)
      intro n11 hn11
      replace hn11 := in64 hn11 (by omega) (by omega)
      refine ev_q rfl (q_callI rfl rfl (rfl) (D_impl_divRound _ _ (by omega) (by omega)) ?_)
      intro n12 hn12
      refine ev_q rfl (q_assign (by conv => lhs; whnf) ?_)
      refine ev_q rfl (q_assign (by conv => lhs; whnf) ?_)
      refine ev_nil (hK8 _ ?_); clear hK8
      refine good_ret ?_
      repeat (first | refine thenQ_ret ?_ | refine blockQ_ret ?_)
      refine ret_many rfl ?_
      refine res_tmp (by conv => lhs; whnf) rfl ?_
      refine res_tmp (by conv => lhs; whnf) rfl ?_
      refine res_nil ?_
      first | (have e : hpO h t := ⟨by omega, by omega⟩; exact fTup1 (fI (by rw [if_pos e]; grind)) (fTup1 (fI (by rw [if_pos e])) rfl)) | (have e : ¬ hpO h t := (fun h => by have h1 := h.1; have h2 := h.2; omega); exact fTup1 (fI (by rw [if_neg e])) (fTup1 (fI (by rw [if_neg e])) rfl))

-- impl.EnergyOf
set_option maxRecDepth 20000 in
set_option maxHeartbeats 2000000 in
theorem D_impl_EnergyOf (p m : Int)  : Den Try.prog 52 [.s (.int .i64 p), .s (.int .i64 m)] (.tup [.s (.int .i64 (enV p m)), .s (.int .i64 (enC p m))]) := by
  refine den_of_good Try.func52 (by decide) rfl (Nat.le_of_ble_eq_true rfl) (Nat.le_of_ble_eq_true rfl) ?_
  refine good_seq fun K1 hK1 => ?_
  refine good_region rfl ?_
  refine ev_q rfl (q_assign (by conv => lhs; whnf) ?_)
  refine ev_q rfl (q_assign (by conv => lhs; whnf) ?_)
  refine ev_nil (hK1 _ ?_); clear hK1
  refine good_seq fun K2 hK2 => ?_
  refine good_seq fun K3 hK3 => ?_
  refine good_region rfl ?_
  refine ev_q rfl (q_move (by conv => lhs; whnf) ?_)
  refine ev_q rfl (q_callB rfl rfl (rfl) (D_impl_within ..) ?_)
  intro b4 hb4; cases b4
  · first | replace hb4 := dF hb4 | skip
    refine ev_q rfl (q_not rfl rfl ?_)
    refine ev_q rfl (q_move (by conv => lhs; whnf) ?_)
    refine ev_skip rfl ?_
    refine ev_skip rfl ?_
    refine ev_skip rfl ?_
    refine ev_q rfl (q_pickT rfl (by conv => lhs; whnf) ?_)
    refine ev_nil (hK3 _ ?_); clear hK3
    refine good_condT rfl ?_
    refine good_seq fun K5 hK5 => ?_
    refine good_region rfl ?_
    refine ev_q rfl (q_assign (by conv => lhs; whnf) ?_)
    refine ev_q rfl (q_assign (by conv => lhs; whnf) ?_)
    refine ev_nil (hK5 _ ?_); clear hK5
    refine good_ret ?_
    repeat (first | refine thenQ_ret ?_ | refine blockQ_ret ?_)
    refine ret_many rfl ?_
    refine res_tmp (by conv => lhs; whnf) rfl ?_
    refine res_tmp (by conv => lhs; whnf) rfl ?_
    refine res_nil ?_
    clear hK2
    first | exact fTup1 (fI (by unfold enV; rw [if_pos e]; grind)) (fTup1 (fI (by unfold enC; rw [if_pos e])) rfl) | (have e : ¬ enO p m := (fun h => by have h1 := h.1; have h2 := h.2; omega); exact fTup1 (fI (by unfold enV; rw [if_neg e])) (fTup1 (fI (by unfold enC; rw [if_neg e])) rfl))
  · first | replace hb4 := dT hb4 | skip
    refine ev_q rfl (q_not rfl rfl ?_)
    refine ev_q rfl (q_move (by conv => lhs; whnf) ?_)
    refine ev_q rfl (q_move (by conv => lhs; whnf) ?_)
    refine ev_q rfl (q_callB rfl rfl (rfl) (D_impl_within ..) ?_)
    intro b6 hb6; cases b6
    · first | replace hb6 := dF hb6 | skip
      refine ev_q rfl (q_not rfl rfl ?_)
      refine ev_q rfl (q_pickF rfl (by conv => lhs; whnf) ?_)
      refine ev_nil (hK3 _ ?_); clear hK3
      refine good_condT rfl ?_
      refine good_seq fun K7 hK7 => ?_
      refine good_region rfl ?_
      refine ev_q rfl (q_assign (by conv => lhs; whnf) ?_)
      refine ev_q rfl (q_assign (by conv => lhs; whnf) ?_)
      refine ev_nil (hK7 _ ?_); clear hK7
      refine good_ret ?_
      repeat (first | refine thenQ_ret ?_ | refine blockQ_ret ?_)
      refine ret_many rfl ?_
      refine res_tmp (by conv => lhs; whnf) rfl ?_
      refine res_tmp (by conv => lhs; whnf) rfl ?_
      refine res_nil ?_
      clear hK2
      first | exact fTup1 (fI (by unfold enV; rw [if_pos e]; grind)) (fTup1 (fI (by unfold enC; rw [if_pos e])) rfl) | (have e : ¬ enO p m := (fun h => by have h1 := h.1; have h2 := h.2; omega); exact fTup1 (fI (by unfold enV; rw [if_neg e])) (fTup1 (fI (by unfold enC; rw [if_neg e])) rfl))
    · first | replace hb6 := dT hb6 | skip
      refine ev_q rfl (q_not rfl rfl ?_)
      refine ev_q rfl (q_pickF rfl (by conv => lhs; whnf) ?_)
      refine ev_nil (hK3 _ ?_); clear hK3
      refine good_condF rfl ?_
      refine good_skip (hK2 _ ?_); clear hK2
      refine good_seq fun K8 hK8 => ?_
      refine good_region rfl ?_
      refine ev_q rfl (q_move (by conv => lhs; whnf) ?_)
      refine ev_q rfl (q_move (by conv => lhs; whnf) ?_)
      have e : enO p m := ⟨by omega, by omega⟩
      have hm := mulE2 e
      refine ev_q rfl (q_int rfl rfl ?_)
      intro n9 hn9
      replace hn9 := in64 hn9 (by omega) (by omega)
      refine ev_q rfl (q_callI rfl rfl (rfl) (D_impl_divRound _ _ (by omega) (by omega)) ?_)
      intro n10 hn10
      refine ev_q rfl (q_assign (by conv => lhs; whnf) ?_)
      refine ev_q rfl (q_assign (by conv => lhs; whnf) ?_)
      refine ev_nil (hK8 _ ?_); clear hK8
      refine good_ret ?_
      repeat (first | refine thenQ_ret ?_ | refine blockQ_ret ?_)
      refine ret_many rfl ?_
      refine res_tmp (by conv => lhs; whnf) rfl ?_
      refine res_tmp (by conv => lhs; whnf) rfl ?_
      refine res_nil ?_
      first | exact fTup1 (fI (by unfold enV; rw [if_pos e]; grind)) (fTup1 (fI (by unfold enC; rw [if_pos e])) rfl) | (have e : ¬ enO p m := (fun h => by have h1 := h.1; have h2 := h.2; omega); exact fTup1 (fI (by unfold enV; rw [if_neg e])) (fTup1 (fI (by unfold enC; rw [if_neg e])) rfl))

-- impl.sumOf
set_option maxRecDepth 20000 in
set_option maxHeartbeats 2000000 in
theorem D_impl_sumOf (xs : List Int) (hx : xs.length ≤ 64) (hw : within xs 0 100000) : Den Try.prog 105 [.lst 1 (xs.map ci)] (.s (.int .i64 (smI xs xs.length))) := by
  refine den_of_good Try.func105 (by decide) rfl (Nat.le_of_ble_eq_true rfl) (Nat.le_of_ble_eq_true rfl) ?_
  refine good_seq fun K1 hK1 => ?_
  refine good_region rfl ?_
  refine ev_q rfl (q_assign (by conv => lhs; whnf) ?_)
  refine ev_nil (hK1 _ ?_); clear hK1
  refine good_seq fun K2 hK2 => ?_
  refine good_region rfl ?_
  refine ev_q rfl (q_assign (by conv => lhs; whnf) ?_)
  refine ev_nil (hK2 _ ?_); clear hK2
  refine good_seq fun K3 hK3 => ?_
  refine good_seq fun K4 hK4 => ?_
  refine good_region rfl ?_
  refine ev_q rfl (q_move (by conv => lhs; whnf) ?_)
  refine ev_q rfl (q_len tEs22 rfl ?_)
  intro n5 hn5
  try simp only [List.length_map] at hn5
  refine ev_q rfl (q_move (by conv => lhs; whnf) ?_)
  refine ev_nil (hK4 _ ?_); clear hK4
  refine good_block ?_
  refine good_loop (α := Nat) (fun i => { env := upd (upd (upd (upd ((fun _ => .junk)) 3 (.s (.int .i64 (smI xs i)))) 6 (.lst 1 (xs.map ci))) 7 (.s (.int .i64 ((xs.length : Int))))) 8 (.s (.int .i64 i)), H := fun _ => none }) (fun i => i ≤ xs.length) (fun i => xs.length - i) 0 ?_ ?_ ?_
  · show 0 ≤ _; omega
  · refine sub_weak ?_ ?_
    · exact weakH_none _
    · refine weakE_upd ?e8 ?r8 (weakE_upd ?e7 ?r7 (weakE_upd ?e6 ?r6 (weakE_upd ?e3 ?r3 (weakE_junk _ _))))
      case e3 => first | rfl | exact fI (by omega) | (first | rfl | exact fI (by omega))
      case r3 => intro h hh; cases hh
      case e6 => first | rfl | exact fI (by omega) | (simp_all)
      case r6 => intro h hh; cases hh
      case e7 => first | rfl | exact fI (by omega) | (simp_all)
      case r7 => intro h hh; cases hh
      case e8 => first | rfl | exact fI (by omega) | (simp_all)
      case r8 => intro h hh; cases hh
  · rintro i hI
    refine good_seq fun K6 hK6 => ?_
    refine good_region rfl ?_
    refine ev_q rfl (q_int rfl rfl ?_)
    intro b7 hb7; cases b7
    · replace hb7 := dF hb7
      refine ev_nil (hK6 _ ?_); clear hK6
      refine good_seq fun K8 hK8 => ?_
      refine good_condF rfl ?_
      refine good_exit ?_
      repeat (first | refine thenQ_exit ?_ | refine blockQ_pass rfl ?_)
      refine blockQ_exit (hK3 _ ?_); clear hK3
      refine good_seq fun K9 hK9 => ?_
      refine good_region rfl ?_
      refine ev_q rfl (q_move (by conv => lhs; whnf) ?_)
      refine ev_q rfl (q_assign (by conv => lhs; whnf) ?_)
      refine ev_nil (hK9 _ ?_); clear hK9
      refine good_ret ?_
      repeat (first | refine thenQ_ret ?_ | refine blockQ_ret ?_)
      refine ret_tmp (st := _) rfl (by conv => lhs; whnf) rfl ?_
      clear hK8
      exact fI (by rw [show xs.length = i by omega])
    · replace hb7 := dT hb7
      obtain ⟨p, hp⟩ := getL (xs := xs) (n := (i : Int)) (by omega) (by omega)
      replace hp : xs[i]? = some p := hp
      have hbd := smI_bd hw i hI
      have hpb := hw i p hp
      have hst := smI_s hp
      refine ev_nil (hK6 _ ?_); clear hK6
      refine good_seq fun K10 hK10 => ?_
      refine good_condT rfl ?_
      refine good_skip (hK10 _ ?_); clear hK10
      refine good_seq fun K11 hK11 => ?_
      refine good_block ?_
      refine good_seq fun K12 hK12 => ?_
      refine good_region rfl ?_
      refine ev_q rfl (q_idx tE22 rfl rfl (by exact Int.natCast_nonneg _) (by exact map_get hp) rfl ?_)
      refine ev_q rfl (q_load tA2 rfl ?_)
      refine ev_q rfl (q_assign (by conv => lhs; whnf) ?_)
      refine ev_nil (hK12 _ ?_); clear hK12
      refine good_region rfl ?_
      refine ev_q rfl (q_move (by conv => lhs; whnf) ?_)
      refine ev_q rfl (q_move (by conv => lhs; whnf) ?_)
      refine ev_q rfl (q_int rfl rfl ?_)
      intro n13 hn13
      replace hn13 := in64 hn13 (by omega) (by omega)
      refine ev_q rfl (q_assign (by conv => lhs; whnf) ?_)
      refine ev_nil (hK11 _ ?_); clear hK11
      refine good_region rfl ?_
      refine ev_q rfl (q_int rfl rfl ?_)
      intro n14 hn14
      replace hn14 := in64 hn14 (by omega) (by omega)
      refine ev_q rfl (q_move (by conv => lhs; whnf) ?_)
      refine ev_nil ?_
      clear hK3
      refine ⟨i + 1, ?_, ?_, ?_⟩
      · show _ ≤ _; omega
      · first | omega | (simp only []; omega) | (dsimp only; omega)
      · refine sub_weak ?_ ?_
        · exact weakH_none _
        · refine weakE_upd ?e8 ?r8 (weakE_upd ?e7 ?r7 (weakE_upd ?e6 ?r6 (weakE_upd ?e3 ?r3 (weakE_junk _ _))))
          case e3 => first | rfl | exact fI (by omega) | (first | rfl | exact fI (by omega))
          case r3 => intro h hh; cases hh
          case e6 => first | rfl | exact fI (by omega) | (simp_all)
          case r6 => intro h hh; cases hh
          case e7 => first | rfl | exact fI (by omega) | (simp_all)
          case r7 => intro h hh; cases hh
          case e8 => first | rfl | exact fI (by omega) | (simp_all)
          case r8 => intro h hh; cases hh

-- impl.MixWater
set_option maxRecDepth 20000 in
set_option maxHeartbeats 2000000 in
theorem D_impl_MixWater (fs ts : List Int) (hf : fs.length ≤ 1000) (ht : ts.length ≤ 1000) : Den Try.prog 46 [.lst 1 (fs.map ci), .lst 1 (ts.map ci)] (.tup [.s (.int .i64 (mwV fs ts)), .s (.int .i64 (mwC fs ts))]) := by
  refine den_of_good Try.func46 (by decide) rfl (Nat.le_of_ble_eq_true rfl) (Nat.le_of_ble_eq_true rfl) ?_
  refine good_seq fun K1 hK1 => ?_
  refine good_region rfl ?_
  refine ev_q rfl (q_assign (by conv => lhs; whnf) ?_)
  refine ev_q rfl (q_assign (by conv => lhs; whnf) ?_)
  refine ev_nil (hK1 _ ?_); clear hK1
  refine good_seq fun K2 hK2 => ?_
  refine good_seq fun K3 hK3 => ?_
  refine good_region rfl ?_
  refine ev_q rfl (q_move (by conv => lhs; whnf) ?_)
  refine ev_q rfl (q_len tEs22 rfl ?_)
  intro n4 hn4
  try simp only [List.length_map] at hn4
  refine ev_q rfl (q_int rfl rfl ?_)
  intro b5 hb5; cases b5
  · replace hb5 := dF hb5
    refine ev_q rfl (q_move (by conv => lhs; whnf) ?_)
    refine ev_q rfl (q_move (by conv => lhs; whnf) ?_)
    refine ev_q rfl (q_len tEs22 rfl ?_)
    intro n6 hn6
    try simp only [List.length_map] at hn6
    refine ev_q rfl (q_int rfl rfl ?_)
    intro b7 hb7; cases b7
    · replace hb7 := dF hb7
      refine ev_q rfl (q_pickF rfl (by conv => lhs; whnf) ?_)
      refine ev_q rfl (q_move (by conv => lhs; whnf) ?_)
      refine ev_q rfl (q_move (by conv => lhs; whnf) ?_)
      refine ev_q rfl (q_len tEs22 rfl ?_)
      intro n8 hn8
      try simp only [List.length_map] at hn8
      refine ev_q rfl (q_move (by conv => lhs; whnf) ?_)
      refine ev_q rfl (q_len tEs22 rfl ?_)
      intro n9 hn9
      try simp only [List.length_map] at hn9
      refine ev_q rfl (q_int rfl rfl ?_)
      intro b10 hb10; cases b10
      · replace hb10 := neF hb10
        refine ev_q rfl (q_pickF rfl (by conv => lhs; whnf) ?_)
        refine ev_q rfl (q_move (by conv => lhs; whnf) ?_)
        refine ev_q rfl (q_move (by conv => lhs; whnf) ?_)
        refine ev_q rfl (q_callB rfl rfl (rfl) (D_impl_allWithin _ _ _ (by omega)) ?_)
        intro b11 hb11; cases b11
        · first | replace hb11 := dF hb11 | skip
          refine ev_q rfl (q_not rfl rfl ?_)
          refine ev_q rfl (q_pickF rfl (by conv => lhs; whnf) ?_)
          refine ev_q rfl (q_move (by conv => lhs; whnf) ?_)
          refine ev_skip rfl ?_
          refine ev_skip rfl ?_
          refine ev_skip rfl ?_
          refine ev_q rfl (q_pickT rfl (by conv => lhs; whnf) ?_)
          refine ev_nil (hK3 _ ?_); clear hK3
          refine good_condT rfl ?_
          refine good_seq fun K12 hK12 => ?_
          refine good_region rfl ?_
          refine ev_q rfl (q_assign (by conv => lhs; whnf) ?_)
          refine ev_q rfl (q_assign (by conv => lhs; whnf) ?_)
          refine ev_nil (hK12 _ ?_); clear hK12
          refine good_ret ?_
          repeat (first | refine thenQ_ret ?_ | refine blockQ_ret ?_)
          refine ret_many rfl ?_
          refine res_tmp (by conv => lhs; whnf) rfl ?_
          refine res_tmp (by conv => lhs; whnf) rfl ?_
          refine res_nil ?_
          clear hK2
          first | (have e : mwC fs ts = 0 := (by unfold mwC; rw [if_pos hok, if_neg (by omega)]); exact fTup1 (fI (by unfold mwV; rw [if_pos e, show fs.length = i by omega]; grind)) (fTup1 (fI (by rw [e])) rfl)) | (have e : mwC fs ts = 6 := (by unfold mwC; rw [if_pos hok, if_pos (by omega)]); exact fTup1 (fI (by unfold mwV; rw [if_neg (by omega)])) (fTup1 (fI (by rw [e])) rfl)) | (have e : mwC fs ts = 2 := (by unfold mwC; rw [if_neg (fun h => by have h1 := h.1; have h2 := h.2.1; first | omega | exact absurd h.2.2.1 (by assumption) | exact absurd h.2.2.2 (by assumption))]); exact fTup1 (fI (by unfold mwV; rw [if_neg (by omega)])) (fTup1 (fI (by rw [e])) rfl))
        · first | replace hb11 := dT hb11 | skip
          refine ev_q rfl (q_not rfl rfl ?_)
          refine ev_q rfl (q_pickF rfl (by conv => lhs; whnf) ?_)
          refine ev_q rfl (q_move (by conv => lhs; whnf) ?_)
          refine ev_q rfl (q_move (by conv => lhs; whnf) ?_)
          refine ev_q rfl (q_callB rfl rfl (rfl) (D_impl_allWithin _ _ _ (by omega)) ?_)
          intro b13 hb13; cases b13
          · first | replace hb13 := dF hb13 | skip
            refine ev_q rfl (q_not rfl rfl ?_)
            refine ev_q rfl (q_pickF rfl (by conv => lhs; whnf) ?_)
            refine ev_nil (hK3 _ ?_); clear hK3
            refine good_condT rfl ?_
            refine good_seq fun K14 hK14 => ?_
            refine good_region rfl ?_
            refine ev_q rfl (q_assign (by conv => lhs; whnf) ?_)
            refine ev_q rfl (q_assign (by conv => lhs; whnf) ?_)
            refine ev_nil (hK14 _ ?_); clear hK14
            refine good_ret ?_
            repeat (first | refine thenQ_ret ?_ | refine blockQ_ret ?_)
            refine ret_many rfl ?_
            refine res_tmp (by conv => lhs; whnf) rfl ?_
            refine res_tmp (by conv => lhs; whnf) rfl ?_
            refine res_nil ?_
            clear hK2
            first | (have e : mwC fs ts = 0 := (by unfold mwC; rw [if_pos hok, if_neg (by omega)]); exact fTup1 (fI (by unfold mwV; rw [if_pos e, show fs.length = i by omega]; grind)) (fTup1 (fI (by rw [e])) rfl)) | (have e : mwC fs ts = 6 := (by unfold mwC; rw [if_pos hok, if_pos (by omega)]); exact fTup1 (fI (by unfold mwV; rw [if_neg (by omega)])) (fTup1 (fI (by rw [e])) rfl)) | (have e : mwC fs ts = 2 := (by unfold mwC; rw [if_neg (fun h => by have h1 := h.1; have h2 := h.2.1; first | omega | exact absurd h.2.2.1 (by assumption) | exact absurd h.2.2.2 (by assumption))]); exact fTup1 (fI (by unfold mwV; rw [if_neg (by omega)])) (fTup1 (fI (by rw [e])) rfl))
          · first | replace hb13 := dT hb13 | skip
            refine ev_q rfl (q_not rfl rfl ?_)
            refine ev_q rfl (q_pickF rfl (by conv => lhs; whnf) ?_)
            refine ev_nil (hK3 _ ?_); clear hK3
            refine good_condF rfl ?_
            refine good_skip (hK2 _ ?_); clear hK2
            refine good_seq fun K15 hK15 => ?_
            refine good_region rfl ?_
            refine ev_q rfl (q_assign (by conv => lhs; whnf) ?_)
            refine ev_nil (hK15 _ ?_); clear hK15
            refine good_seq fun K16 hK16 => ?_
            refine good_seq fun K17 hK17 => ?_
            refine good_region rfl ?_
            have hok : mwO fs ts := ⟨by omega, by omega, by assumption, by assumption⟩
            have hwf := hok.2.2.1
            have hwt := hok.2.2.2
            have hle := hok.2.1
            have hsb := smI_bd hwf fs.length (Nat.le_refl _)
            have hmb := mwS_bd hwf hwt hle fs.length (Nat.le_refl _)
            refine ev_q rfl (q_move (by conv => lhs; whnf) ?_)
            refine ev_q rfl (q_len tEs22 rfl ?_)
            intro n18 hn18
            try simp only [List.length_map] at hn18
            refine ev_q rfl (q_move (by conv => lhs; whnf) ?_)
            refine ev_nil (hK17 _ ?_); clear hK17
            refine good_block ?_
            refine good_loop (α := Nat) (fun i => { env := upd (upd (upd (upd (upd (upd ((fun _ => .junk)) 0 (.lst 1 (fs.map ci))) 1 (.lst 1 (ts.map ci))) 6 (.s (.int .i64 (mwS fs ts i)))) 35 (.lst 1 (fs.map ci))) 36 (.s (.int .i64 ((fs.length : Int))))) 37 (.s (.int .i64 i)), H := fun _ => none }) (fun i => i ≤ fs.length) (fun i => fs.length - i) 0 ?_ ?_ ?_
            · show 0 ≤ _; omega
            · refine sub_weak ?_ ?_
              · exact weakH_none _
              · refine weakE_upd ?e37 ?r37 (weakE_upd ?e36 ?r36 (weakE_upd ?e35 ?r35 (weakE_upd ?e6 ?r6 (weakE_upd ?e1 ?r1 (weakE_upd ?e0 ?r0 (weakE_junk _ _))))))
                case e0 => first | rfl | exact fI (by omega) | (simp_all)
                case r0 => intro h hh; cases hh
                case e1 => first | rfl | exact fI (by omega) | (simp_all)
                case r1 => intro h hh; cases hh
                case e6 => first | rfl | exact fI (by omega) | (first | rfl | exact fI (by omega))
                case r6 => intro h hh; cases hh
                case e35 => first | rfl | exact fI (by omega) | (simp_all)
                case r35 => intro h hh; cases hh
                case e36 => first | rfl | exact fI (by omega) | (simp_all)
                case r36 => intro h hh; cases hh
                case e37 => first | rfl | exact fI (by omega) | (simp_all)
                case r37 => intro h hh; cases hh
            · rintro i hI
              refine good_seq fun K19 hK19 => ?_
              refine good_region rfl ?_
              refine ev_q rfl (q_int rfl rfl ?_)
              intro b20 hb20; cases b20
              · replace hb20 := dF hb20
                refine ev_nil (hK19 _ ?_); clear hK19
                refine good_seq fun K21 hK21 => ?_
                refine good_condF rfl ?_
                refine good_exit ?_
                repeat (first | refine thenQ_exit ?_ | refine blockQ_pass rfl ?_)
                refine blockQ_exit (hK16 _ ?_); clear hK16
                refine good_seq fun K22 hK22 => ?_
                refine good_region rfl ?_
                have hmb2 := mwS_bd hwf hwt hle i (by omega)
                refine ev_q rfl (q_move (by conv => lhs; whnf) ?_)
                refine ev_q rfl (q_callI rfl rfl (rfl) (D_impl_sumOf fs (by omega) (by assumption)) ?_)
                intro n23 hn23
                refine ev_q rfl (q_assign (by conv => lhs; whnf) ?_)
                refine ev_nil (hK22 _ ?_); clear hK22
                refine good_seq fun K24 hK24 => ?_
                refine good_seq fun K25 hK25 => ?_
                refine good_region rfl ?_
                refine ev_q rfl (q_move (by conv => lhs; whnf) ?_)
                refine ev_q rfl (q_int rfl rfl ?_)
                intro b26 hb26; cases b26
                · replace hb26 := eqF hb26
                  refine ev_nil (hK25 _ ?_); clear hK25
                  refine good_condF rfl ?_
                  refine good_skip (hK24 _ ?_); clear hK24
                  refine good_seq fun K27 hK27 => ?_
                  refine good_region rfl ?_
                  refine ev_q rfl (q_move (by conv => lhs; whnf) ?_)
                  refine ev_q rfl (q_move (by conv => lhs; whnf) ?_)
                  refine ev_q rfl (q_callI rfl rfl (rfl) (D_impl_divRound _ _ (by omega) (by omega)) ?_)
                  intro n28 hn28
                  refine ev_q rfl (q_assign (by conv => lhs; whnf) ?_)
                  refine ev_q rfl (q_assign (by conv => lhs; whnf) ?_)
                  refine ev_nil (hK27 _ ?_); clear hK27
                  refine good_ret ?_
                  repeat (first | refine thenQ_ret ?_ | refine blockQ_ret ?_)
                  refine ret_many rfl ?_
                  refine res_tmp (by conv => lhs; whnf) rfl ?_
                  refine res_tmp (by conv => lhs; whnf) rfl ?_
                  refine res_nil ?_
                  clear hK21
                  first | (have e : mwC fs ts = 0 := (by unfold mwC; rw [if_pos hok, if_neg (by omega)]); exact fTup1 (fI (by unfold mwV; rw [if_pos e, show fs.length = i by omega]; grind)) (fTup1 (fI (by rw [e])) rfl)) | (have e : mwC fs ts = 6 := (by unfold mwC; rw [if_pos hok, if_pos (by omega)]); exact fTup1 (fI (by unfold mwV; rw [if_neg (by omega)])) (fTup1 (fI (by rw [e])) rfl)) | (have e : mwC fs ts = 2 := (by unfold mwC; rw [if_neg (fun h => by have h1 := h.1; have h2 := h.2.1; first | omega | exact absurd h.2.2.1 (by assumption) | exact absurd h.2.2.2 (by assumption))]); exact fTup1 (fI (by unfold mwV; rw [if_neg (by omega)])) (fTup1 (fI (by rw [e])) rfl))
                · replace hb26 := eqT hb26
                  refine ev_nil (hK25 _ ?_); clear hK25
                  refine good_condT rfl ?_
                  refine good_seq fun K29 hK29 => ?_
                  refine good_region rfl ?_
                  refine ev_q rfl (q_assign (by conv => lhs; whnf) ?_)
                  refine ev_q rfl (q_assign (by conv => lhs; whnf) ?_)
                  refine ev_nil (hK29 _ ?_); clear hK29
                  refine good_ret ?_
                  repeat (first | refine thenQ_ret ?_ | refine blockQ_ret ?_)
                  refine ret_many rfl ?_
                  refine res_tmp (by conv => lhs; whnf) rfl ?_
                  refine res_tmp (by conv => lhs; whnf) rfl ?_
                  refine res_nil ?_
                  clear hK21 hK24
                  first | (have e : mwC fs ts = 0 := (by unfold mwC; rw [if_pos hok, if_neg (by omega)]); exact fTup1 (fI (by unfold mwV; rw [if_pos e, show fs.length = i by omega]; grind)) (fTup1 (fI (by rw [e])) rfl)) | (have e : mwC fs ts = 6 := (by unfold mwC; rw [if_pos hok, if_pos (by omega)]); exact fTup1 (fI (by unfold mwV; rw [if_neg (by omega)])) (fTup1 (fI (by rw [e])) rfl)) | (have e : mwC fs ts = 2 := (by unfold mwC; rw [if_neg (fun h => by have h1 := h.1; have h2 := h.2.1; first | omega | exact absurd h.2.2.1 (by assumption) | exact absurd h.2.2.2 (by assumption))]); exact fTup1 (fI (by unfold mwV; rw [if_neg (by omega)])) (fTup1 (fI (by rw [e])) rfl))
              · replace hb20 := dT hb20
                obtain ⟨u, hu⟩ := getL (xs := fs) (n := (i : Int)) (by omega) (by omega)
                replace hu : fs[i]? = some u := hu
                obtain ⟨v, hv⟩ := getL (xs := ts) (n := (i : Int)) (by omega) (by omega)
                replace hv : ts[i]? = some v := hv
                have hm := mul_ft (hwf i u hu) (hwt i v hv)
                have hbd := mwS_bd hwf hwt hle i (by omega)
                have hst := mwS_s hu hv
                refine ev_nil (hK19 _ ?_); clear hK19
                refine good_seq fun K30 hK30 => ?_
                refine good_condT rfl ?_
                refine good_skip (hK30 _ ?_); clear hK30
                refine good_seq fun K31 hK31 => ?_
                refine good_block ?_
                refine good_seq fun K32 hK32 => ?_
                refine good_region rfl ?_
                refine ev_q rfl (q_move (by conv => lhs; whnf) ?_)
                refine ev_q rfl (q_idx tE22 rfl rfl (by exact Int.natCast_nonneg _) (by exact map_get hu) rfl ?_)
                refine ev_q rfl (q_load tA2 rfl ?_)
                refine ev_q rfl (q_assign (by conv => lhs; whnf) ?_)
                refine ev_q rfl (q_assign (by conv => lhs; whnf) ?_)
                refine ev_nil (hK32 _ ?_); clear hK32
                refine good_region rfl ?_
                refine ev_q rfl (q_move (by conv => lhs; whnf) ?_)
                refine ev_q rfl (q_move (by conv => lhs; whnf) ?_)
                refine ev_q rfl (q_move (by conv => lhs; whnf) ?_)
                refine ev_q rfl (q_move (by conv => lhs; whnf) ?_)
                refine ev_q rfl (q_idx tE22 rfl rfl (by exact Int.natCast_nonneg _) (by exact map_get hv) rfl ?_)
                refine ev_q rfl (q_load tA2 rfl ?_)
                refine ev_q rfl (q_int rfl rfl ?_)
                intro n33 hn33
                replace hn33 := in64 hn33 (by omega) (by omega)
                refine ev_q rfl (q_int rfl rfl ?_)
                intro n34 hn34
                replace hn34 := in64 hn34 (by omega) (by omega)
                refine ev_q rfl (q_assign (by conv => lhs; whnf) ?_)
                refine ev_nil (hK31 _ ?_); clear hK31
                refine good_region rfl ?_
                refine ev_q rfl (q_int rfl rfl ?_)
                intro n35 hn35
                replace hn35 := in64 hn35 (by omega) (by omega)
                refine ev_q rfl (q_move (by conv => lhs; whnf) ?_)
                refine ev_nil ?_
                clear hK16
                refine ⟨i + 1, ?_, ?_, ?_⟩
                · show _ ≤ _; omega
                · first | omega | (simp only []; omega) | (dsimp only; omega)
                · refine sub_weak ?_ ?_
                  · exact weakH_none _
                  · refine weakE_upd ?e37 ?r37 (weakE_upd ?e36 ?r36 (weakE_upd ?e35 ?r35 (weakE_upd ?e6 ?r6 (weakE_upd ?e1 ?r1 (weakE_upd ?e0 ?r0 (weakE_junk _ _))))))
                    case e0 => first | rfl | exact fI (by omega) | (simp_all)
                    case r0 => intro h hh; cases hh
                    case e1 => first | rfl | exact fI (by omega) | (simp_all)
                    case r1 => intro h hh; cases hh
                    case e6 => first | rfl | exact fI (by omega) | (first | rfl | exact fI (by omega))
                    case r6 => intro h hh; cases hh
                    case e35 => first | rfl | exact fI (by omega) | (simp_all)
                    case r35 => intro h hh; cases hh
                    case e36 => first | rfl | exact fI (by omega) | (simp_all)
                    case r36 => intro h hh; cases hh
                    case e37 => first | rfl | exact fI (by omega) | (simp_all)
                    case r37 => intro h hh; cases hh
      · replace hb10 := neT hb10
        refine ev_q rfl (q_pickF rfl (by conv => lhs; whnf) ?_)
        refine ev_q rfl (q_move (by conv => lhs; whnf) ?_)
        refine ev_skip rfl ?_
        refine ev_skip rfl ?_
        refine ev_skip rfl ?_
        refine ev_q rfl (q_pickT rfl (by conv => lhs; whnf) ?_)
        refine ev_q rfl (q_move (by conv => lhs; whnf) ?_)
        refine ev_skip rfl ?_
        refine ev_skip rfl ?_
        refine ev_skip rfl ?_
        refine ev_q rfl (q_pickT rfl (by conv => lhs; whnf) ?_)
        refine ev_nil (hK3 _ ?_); clear hK3
        refine good_condT rfl ?_
        refine good_seq fun K36 hK36 => ?_
        refine good_region rfl ?_
        refine ev_q rfl (q_assign (by conv => lhs; whnf) ?_)
        refine ev_q rfl (q_assign (by conv => lhs; whnf) ?_)
        refine ev_nil (hK36 _ ?_); clear hK36
        refine good_ret ?_
        repeat (first | refine thenQ_ret ?_ | refine blockQ_ret ?_)
        refine ret_many rfl ?_
        refine res_tmp (by conv => lhs; whnf) rfl ?_
        refine res_tmp (by conv => lhs; whnf) rfl ?_
        refine res_nil ?_
        clear hK2
        first | (have e : mwC fs ts = 0 := (by unfold mwC; rw [if_pos hok, if_neg (by omega)]); exact fTup1 (fI (by unfold mwV; rw [if_pos e, show fs.length = i by omega]; grind)) (fTup1 (fI (by rw [e])) rfl)) | (have e : mwC fs ts = 6 := (by unfold mwC; rw [if_pos hok, if_pos (by omega)]); exact fTup1 (fI (by unfold mwV; rw [if_neg (by omega)])) (fTup1 (fI (by rw [e])) rfl)) | (have e : mwC fs ts = 2 := (by unfold mwC; rw [if_neg (fun h => by have h1 := h.1; have h2 := h.2.1; first | omega | exact absurd h.2.2.1 (by assumption) | exact absurd h.2.2.2 (by assumption))]); exact fTup1 (fI (by unfold mwV; rw [if_neg (by omega)])) (fTup1 (fI (by rw [e])) rfl))
    · replace hb7 := dT hb7
      refine ev_q rfl (q_pickF rfl (by conv => lhs; whnf) ?_)
      refine ev_q rfl (q_move (by conv => lhs; whnf) ?_)
      refine ev_skip rfl ?_
      refine ev_skip rfl ?_
      refine ev_skip rfl ?_
      refine ev_skip rfl ?_
      refine ev_skip rfl ?_
      refine ev_q rfl (q_pickT rfl (by conv => lhs; whnf) ?_)
      refine ev_q rfl (q_move (by conv => lhs; whnf) ?_)
      refine ev_skip rfl ?_
      refine ev_skip rfl ?_
      refine ev_skip rfl ?_
      refine ev_q rfl (q_pickT rfl (by conv => lhs; whnf) ?_)
      refine ev_q rfl (q_move (by conv => lhs; whnf) ?_)
      refine ev_skip rfl ?_
      refine ev_skip rfl ?_
      refine ev_skip rfl ?_
      refine ev_q rfl (q_pickT rfl (by conv => lhs; whnf) ?_)
      refine ev_nil (hK3 _ ?_); clear hK3
      refine good_condT rfl ?_
      refine good_seq fun K37 hK37 => ?_
      refine good_region rfl ?_
      refine ev_q rfl (q_assign (by conv => lhs; whnf) ?_)
      refine ev_q rfl (q_assign (by conv => lhs; whnf) ?_)
      refine ev_nil (hK37 _ ?_); clear hK37
      refine good_ret ?_
      repeat (first | refine thenQ_ret ?_ | refine blockQ_ret ?_)
      refine ret_many rfl ?_
      refine res_tmp (by conv => lhs; whnf) rfl ?_
      refine res_tmp (by conv => lhs; whnf) rfl ?_
      refine res_nil ?_
      clear hK2
      first | (have e : mwC fs ts = 0 := (by unfold mwC; rw [if_pos hok, if_neg (by omega)]); exact fTup1 (fI (by unfold mwV; rw [if_pos e, show fs.length = i by omega]; grind)) (fTup1 (fI (by rw [e])) rfl)) | (have e : mwC fs ts = 6 := (by unfold mwC; rw [if_pos hok, if_pos (by omega)]); exact fTup1 (fI (by unfold mwV; rw [if_neg (by omega)])) (fTup1 (fI (by rw [e])) rfl)) | (have e : mwC fs ts = 2 := (by unfold mwC; rw [if_neg (fun h => by have h1 := h.1; have h2 := h.2.1; first | omega | exact absurd h.2.2.1 (by assumption) | exact absurd h.2.2.2 (by assumption))]); exact fTup1 (fI (by unfold mwV; rw [if_neg (by omega)])) (fTup1 (fI (by rw [e])) rfl))
  · replace hb5 := dT hb5
    refine ev_q rfl (q_move (by conv => lhs; whnf) ?_)
    refine ev_skip rfl ?_
    refine ev_skip rfl ?_
    refine ev_skip rfl ?_
    refine ev_q rfl (q_pickT rfl (by conv => lhs; whnf) ?_)
    refine ev_q rfl (q_move (by conv => lhs; whnf) ?_)
    refine ev_skip rfl ?_
    refine ev_skip rfl ?_
    refine ev_skip rfl ?_
    refine ev_skip rfl ?_
    refine ev_skip rfl ?_
    refine ev_q rfl (q_pickT rfl (by conv => lhs; whnf) ?_)
    refine ev_q rfl (q_move (by conv => lhs; whnf) ?_)
    refine ev_skip rfl ?_
    refine ev_skip rfl ?_
    refine ev_skip rfl ?_
    refine ev_q rfl (q_pickT rfl (by conv => lhs; whnf) ?_)
    refine ev_q rfl (q_move (by conv => lhs; whnf) ?_)
    refine ev_skip rfl ?_
    refine ev_skip rfl ?_
    refine ev_skip rfl ?_
    refine ev_q rfl (q_pickT rfl (by conv => lhs; whnf) ?_)
    refine ev_nil (hK3 _ ?_); clear hK3
    refine good_condT rfl ?_
    refine good_seq fun K38 hK38 => ?_
    refine good_region rfl ?_
    refine ev_q rfl (q_assign (by conv => lhs; whnf) ?_)
    refine ev_q rfl (q_assign (by conv => lhs; whnf) ?_)
    refine ev_nil (hK38 _ ?_); clear hK38
    refine good_ret ?_
    repeat (first | refine thenQ_ret ?_ | refine blockQ_ret ?_)
    refine ret_many rfl ?_
    refine res_tmp (by conv => lhs; whnf) rfl ?_
    refine res_tmp (by conv => lhs; whnf) rfl ?_
    refine res_nil ?_
    clear hK2
    first | (have e : mwC fs ts = 0 := (by unfold mwC; rw [if_pos hok, if_neg (by omega)]); exact fTup1 (fI (by unfold mwV; rw [if_pos e, show fs.length = i by omega]; grind)) (fTup1 (fI (by rw [e])) rfl)) | (have e : mwC fs ts = 6 := (by unfold mwC; rw [if_pos hok, if_pos (by omega)]); exact fTup1 (fI (by unfold mwV; rw [if_neg (by omega)])) (fTup1 (fI (by rw [e])) rfl)) | (have e : mwC fs ts = 2 := (by unfold mwC; rw [if_neg (fun h => by have h1 := h.1; have h2 := h.2.1; first | omega | exact absurd h.2.2.1 (by assumption) | exact absurd h.2.2.2 (by assumption))]); exact fTup1 (fI (by unfold mwV; rw [if_neg (by omega)])) (fTup1 (fI (by rw [e])) rfl))

-- (*spec.l00Src).next
set_option maxRecDepth 20000 in
set_option maxHeartbeats 2000000 in
theorem D_spec_l00Src_next (cs : List Int) (a s : Int) (hc : cs.length ≤ 17592186044416) (hb : byteL cs) (ha : 0 ≤ a ∧ a ≤ 3999999999999999999)  : DenXR Try.prog 132 [(1000000, .box 133 (src cs a s))] [.ptr 1000000 0] (τ := Int × Int × Int) (fun (v, a1, s1) => (0 ≤ v ∧ v ≤ 255) ∧ (a ≤ a1 ∧ a1 ≤ a + 1)) (fun (v, a1, s1) => [(1000000, .box 133 (src cs a1 s1))]) (fun (v, a1, s1) => .s (.int .i64 v)) := by
  refine denXR_of_good Try.func132 (by decide) rfl (Nat.le_of_ble_eq_true rfl) (Nat.le_of_ble_eq_true rfl) rfl ?_
  refine good_seq fun K1 hK1 => ?_
  refine good_region rfl ?_
  refine ev_q rfl (q_assign (by conv => lhs; whnf) ?_)
  refine ev_nil (hK1 _ ?_); clear hK1
  refine good_seq fun K2 hK2 => ?_
  refine good_region rfl ?_
  refine ev_q rfl (q_assign (by conv => lhs; whnf) ?_)
  refine ev_nil (hK2 _ ?_); clear hK2
  refine good_seq fun K3 hK3 => ?_
  refine good_seq fun K4 hK4 => ?_
  refine good_draw 10 hmix (by kernel_rfl) rfl ?_
  refine qo_q rfl (q_move (by conv => lhs; whnf) ?_)
  refine qo_q rfl (q_nilCheck (by conv => lhs; whnf) rfl ?_)
  refine qo_q rfl (q_fieldAddrP fO133_1 rfl rfl ?_)
  refine qo_q rfl (q_load tA3 rfl ?_)
  refine qo_q rfl (q_move (by conv => lhs; whnf) ?_)
  refine qo_q rfl (q_nilCheck (by conv => lhs; whnf) rfl ?_)
  refine qo_q rfl (q_fieldAddrP fO133_0 rfl rfl ?_)
  refine qo_q rfl (q_load tA59 rfl ?_)
  refine qo_q rfl (q_len tEs59 rfl ?_)
  intro n5 hn5
  try simp only [List.length_map] at hn5
  refine qo_q rfl (q_int rfl rfl ?_)
  intro b6 hb6; cases b6
  · replace hb6 := dF hb6
    refine qo_nil ?_
    refine ev_nil (hK4 _ ?_); clear hK4
    refine good_condF rfl ?_
    refine good_skip (hK3 _ ?_); clear hK3
    refine good_seq fun K7 hK7 => ?_
    refine good_region rfl ?_
    refine ev_q rfl (q_move (by conv => lhs; whnf) ?_)
    refine ev_q rfl (q_nilCheck (by conv => lhs; whnf) rfl ?_)
    refine ev_q rfl (q_fieldAddrP fO133_1 rfl rfl ?_)
    refine ev_q rfl (q_load tA3 rfl ?_)
    refine ev_q rfl (q_int rfl rfl ?_)
    intro n8 hn8
    replace hn8 := in64 hn8 (by omega) (by omega)
    refine ev_q rfl (q_nilCheck (by conv => lhs; whnf) rfl ?_)
    refine ev_q rfl (q_fieldAddrP fO133_1 rfl rfl ?_)
    refine ev_k rfl (k_store sz3 rfl (by conv => lhs; whnf) rfl rfl rfl (Nat.le_of_ble_eq_true rfl) rfl ?_)
    refine ev_nil (hK7 _ ?_); clear hK7
    refine good_seq fun K9 hK9 => ?_
    refine good_region rfl ?_
    refine ev_q rfl (q_move (by conv => lhs; whnf) ?_)
    refine ev_q rfl (q_move (by conv => lhs; whnf) ?_)
    refine ev_q rfl (q_nilCheck (by conv => lhs; whnf) rfl ?_)
    refine ev_q rfl (q_fieldAddrP fO133_2 rfl rfl ?_)
    refine ev_q rfl (q_load tA131 rfl ?_)
    refine ev_q rfl (q_int rfl rfl ?_)
    intro n10 hn10
    skip
    refine ev_q rfl (q_move (by conv => lhs; whnf) ?_)
    refine ev_q rfl (q_conv tK3 tK131 rfl ?_)
    intro n11 hn11
    skip
    refine ev_q rfl (q_int rfl rfl ?_)
    intro n12 hn12
    skip
    refine ev_q rfl (q_int rfl rfl ?_)
    intro n13 hn13
    skip
    refine ev_q rfl (q_nilCheck (by conv => lhs; whnf) rfl ?_)
    refine ev_q rfl (q_fieldAddrP fO133_2 rfl rfl ?_)
    refine ev_k rfl (k_store sz131 rfl (by conv => lhs; whnf) rfl rfl rfl (Nat.le_of_ble_eq_true rfl) rfl ?_)
    refine ev_nil (hK9 _ ?_); clear hK9
    refine good_seq fun K14 hK14 => ?_
    refine good_seq fun K15 hK15 => ?_
    refine good_draw 10 hmix (by kernel_rfl) rfl ?_
    refine qo_q rfl (q_move (by conv => lhs; whnf) ?_)
    refine qo_q rfl (q_nilCheck (by conv => lhs; whnf) rfl ?_)
    refine qo_q rfl (q_fieldAddrP fO133_1 rfl rfl ?_)
    refine qo_q rfl (q_load tA3 rfl ?_)
    refine qo_q rfl (q_move (by conv => lhs; whnf) ?_)
    refine qo_q rfl (q_nilCheck (by conv => lhs; whnf) rfl ?_)
    refine qo_q rfl (q_fieldAddrP fO133_0 rfl rfl ?_)
    refine qo_q rfl (q_load tA59 rfl ?_)
    refine qo_q rfl (q_len tEs59 rfl ?_)
    intro n16 hn16
    try simp only [List.length_map] at hn16
    refine qo_q rfl (q_int rfl rfl ?_)
    intro b17 hb17; cases b17
    · replace hb17 := dF hb17
      refine qo_nil ?_
      refine ev_nil (hK15 _ ?_); clear hK15
      refine good_condF rfl ?_
      refine good_skip (hK14 _ ?_); clear hK14
      refine good_seq fun K18 hK18 => ?_
      refine good_region rfl ?_
      refine ev_q rfl (q_move (by conv => lhs; whnf) ?_)
      refine ev_q rfl (q_nilCheck (by conv => lhs; whnf) rfl ?_)
      refine ev_q rfl (q_fieldAddrP fO133_2 rfl rfl ?_)
      refine ev_q rfl (q_load tA131 rfl ?_)
      refine ev_q rfl (q_shr rfl rfl ⟨by omega, ?_⟩)
      intro n19 hn19
      skip
      refine ev_q rfl (q_int rfl rfl ?_)
      intro n20 hn20
      have hv := and255 hn20
      refine ev_q rfl (q_conv tK131 tK2 rfl ?_)
      intro n21 hn21
      replace hn21 := in64 hn21 (by omega) (by omega)
      refine ev_q rfl (q_assign (by conv => lhs; whnf) ?_)
      refine ev_nil (hK18 _ ?_); clear hK18
      refine good_ret ?_
      repeat (first | refine thenQ_ret ?_ | refine blockQ_ret ?_)
      apply ex_3
      case hF =>
        refine fx_tmp rfl (by conv => lhs; whnf) ?_
        exact ⟨_, conv_eq (by first | rfl | exact fI (by first | omega | grind) | (exfalso; first | omega | grind)), weakH_box (boxEq (by first | rfl | (rw [e]; done) | (rw [e]; rfl) | (simp_all; done))) rfl (weakH_none _), refsIn_ok rfl⟩
      case hR =>
        exact ⟨by omega, by omega⟩
    · replace hb17 := dT hb17
      refine qo_nil ?_
      refine ev_nil (hK15 _ ?_); clear hK15
      refine good_condT rfl ?_
      refine good_seq fun K22 hK22 => ?_
      refine good_region rfl ?_
      refine ev_q rfl (q_move (by conv => lhs; whnf) ?_)
      refine ev_q rfl (q_assign (by conv => lhs; whnf) ?_)
      refine ev_nil (hK22 _ ?_); clear hK22
      refine good_ret ?_
      repeat (first | refine thenQ_ret ?_ | refine blockQ_ret ?_)
      clear hK14
      apply ex_3
      case hF =>
        refine fx_tmp rfl (by conv => lhs; whnf) ?_
        exact ⟨_, conv_eq (by first | rfl | exact fI (by first | omega | grind) | (exfalso; first | omega | grind)), weakH_box (boxEq (by first | rfl | (rw [e]; done) | (rw [e]; rfl) | (simp_all; done))) rfl (weakH_none _), refsIn_ok rfl⟩
      case hR =>
        exact ⟨by omega, by omega⟩
  · replace hb6 := dT hb6
    obtain ⟨p, hp⟩ := getL (xs := cs) (n := a) (by omega) (by omega)
    have hpb := hb p (List.mem_of_getElem? hp)
    refine qo_nil ?_
    refine ev_nil (hK4 _ ?_); clear hK4
    refine good_condT rfl ?_
    refine good_draw 12 hmix (by kernel_rfl) rfl ?_
    refine qo_q rfl (q_move (by conv => lhs; whnf) ?_)
    refine qo_q rfl (q_nilCheck (by conv => lhs; whnf) rfl ?_)
    refine qo_q rfl (q_fieldAddrP fO133_0 rfl rfl ?_)
    refine qo_q rfl (q_load tA59 rfl ?_)
    refine qo_q rfl (q_move (by conv => lhs; whnf) ?_)
    refine qo_q rfl (q_nilCheck (by conv => lhs; whnf) rfl ?_)
    refine qo_q rfl (q_fieldAddrP fO133_1 rfl rfl ?_)
    refine qo_q rfl (q_load tA3 rfl ?_)
    refine qo_q rfl (q_idx tE59 rfl rfl (by omega) (by exact map_get hp) rfl ?_)
    refine qo_q rfl (q_load tA5 rfl ?_)
    refine qo_q rfl (q_conv tK5 tK3 rfl ?_)
    intro n23 hn23
    replace hn23 := in64 hn23 (by omega) (by omega)
    refine qo_q rfl (q_assign (by conv => lhs; whnf) ?_)
    refine qo_nil ?_
    refine ev_nil (hK3 _ ?_); clear hK3
    refine good_seq fun K24 hK24 => ?_
    refine good_region rfl ?_
    refine ev_q rfl (q_move (by conv => lhs; whnf) ?_)
    refine ev_q rfl (q_nilCheck (by conv => lhs; whnf) rfl ?_)
    refine ev_q rfl (q_fieldAddrP fO133_1 rfl rfl ?_)
    refine ev_q rfl (q_load tA3 rfl ?_)
    refine ev_q rfl (q_int rfl rfl ?_)
    intro n25 hn25
    replace hn25 := in64 hn25 (by omega) (by omega)
    refine ev_q rfl (q_nilCheck (by conv => lhs; whnf) rfl ?_)
    refine ev_q rfl (q_fieldAddrP fO133_1 rfl rfl ?_)
    refine ev_k rfl (k_store sz3 rfl (by conv => lhs; whnf) rfl rfl rfl (Nat.le_of_ble_eq_true rfl) rfl ?_)
    refine ev_nil (hK24 _ ?_); clear hK24
    refine good_seq fun K26 hK26 => ?_
    refine good_region rfl ?_
    refine ev_q rfl (q_move (by conv => lhs; whnf) ?_)
    refine ev_q rfl (q_move (by conv => lhs; whnf) ?_)
    refine ev_q rfl (q_nilCheck (by conv => lhs; whnf) rfl ?_)
    refine ev_q rfl (q_fieldAddrP fO133_2 rfl rfl ?_)
    refine ev_q rfl (q_load tA131 rfl ?_)
    refine ev_q rfl (q_int rfl rfl ?_)
    intro n27 hn27
    skip
    refine ev_q rfl (q_move (by conv => lhs; whnf) ?_)
    refine ev_q rfl (q_conv tK3 tK131 rfl ?_)
    intro n28 hn28
    skip
    refine ev_q rfl (q_int rfl rfl ?_)
    intro n29 hn29
    skip
    refine ev_q rfl (q_int rfl rfl ?_)
    intro n30 hn30
    skip
    refine ev_q rfl (q_nilCheck (by conv => lhs; whnf) rfl ?_)
    refine ev_q rfl (q_fieldAddrP fO133_2 rfl rfl ?_)
    refine ev_k rfl (k_store sz131 rfl (by conv => lhs; whnf) rfl rfl rfl (Nat.le_of_ble_eq_true rfl) rfl ?_)
    refine ev_nil (hK26 _ ?_); clear hK26
    refine good_seq fun K31 hK31 => ?_
    refine good_seq fun K32 hK32 => ?_
    refine good_draw 10 hmix (by kernel_rfl) rfl ?_
    refine qo_q rfl (q_move (by conv => lhs; whnf) ?_)
    refine qo_q rfl (q_nilCheck (by conv => lhs; whnf) rfl ?_)
    refine qo_q rfl (q_fieldAddrP fO133_1 rfl rfl ?_)
    refine qo_q rfl (q_load tA3 rfl ?_)
    refine qo_q rfl (q_move (by conv => lhs; whnf) ?_)
    refine qo_q rfl (q_nilCheck (by conv => lhs; whnf) rfl ?_)
    refine qo_q rfl (q_fieldAddrP fO133_0 rfl rfl ?_)
    refine qo_q rfl (q_load tA59 rfl ?_)
    refine qo_q rfl (q_len tEs59 rfl ?_)
    intro n33 hn33
    try simp only [List.length_map] at hn33
    refine qo_q rfl (q_int rfl rfl ?_)
    intro b34 hb34; cases b34
    · replace hb34 := dF hb34
      refine qo_nil ?_
      refine ev_nil (hK32 _ ?_); clear hK32
      refine good_condF rfl ?_
      refine good_skip (hK31 _ ?_); clear hK31
      refine good_seq fun K35 hK35 => ?_
      refine good_region rfl ?_
      refine ev_q rfl (q_move (by conv => lhs; whnf) ?_)
      refine ev_q rfl (q_nilCheck (by conv => lhs; whnf) rfl ?_)
      refine ev_q rfl (q_fieldAddrP fO133_2 rfl rfl ?_)
      refine ev_q rfl (q_load tA131 rfl ?_)
      refine ev_q rfl (q_shr rfl rfl ⟨by omega, ?_⟩)
      intro n36 hn36
      skip
      refine ev_q rfl (q_int rfl rfl ?_)
      intro n37 hn37
      have hv := and255 hn37
      refine ev_q rfl (q_conv tK131 tK2 rfl ?_)
      intro n38 hn38
      replace hn38 := in64 hn38 (by omega) (by omega)
      refine ev_q rfl (q_assign (by conv => lhs; whnf) ?_)
      refine ev_nil (hK35 _ ?_); clear hK35
      refine good_ret ?_
      repeat (first | refine thenQ_ret ?_ | refine blockQ_ret ?_)
      apply ex_3
      case hF =>
        refine fx_tmp rfl (by conv => lhs; whnf) ?_
        exact ⟨_, conv_eq (by first | rfl | exact fI (by first | omega | grind) | (exfalso; first | omega | grind)), weakH_box (boxEq (by first | rfl | (rw [e]; done) | (rw [e]; rfl) | (simp_all; done))) rfl (weakH_none _), refsIn_ok rfl⟩
      case hR =>
        exact ⟨by omega, by omega⟩
    · replace hb34 := dT hb34
      refine qo_nil ?_
      refine ev_nil (hK32 _ ?_); clear hK32
      refine good_condT rfl ?_
      refine good_seq fun K39 hK39 => ?_
      refine good_region rfl ?_
      refine ev_q rfl (q_move (by conv => lhs; whnf) ?_)
      refine ev_q rfl (q_assign (by conv => lhs; whnf) ?_)
      refine ev_nil (hK39 _ ?_); clear hK39
      refine good_ret ?_
      repeat (first | refine thenQ_ret ?_ | refine blockQ_ret ?_)
      clear hK31
      apply ex_3
      case hF =>
        refine fx_tmp rfl (by conv => lhs; whnf) ?_
        exact ⟨_, conv_eq (by first | rfl | exact fI (by first | omega | grind) | (exfalso; first | omega | grind)), weakH_box (boxEq (by first | rfl | (rw [e]; done) | (rw [e]; rfl) | (simp_all; done))) rfl (weakH_none _), refsIn_ok rfl⟩
      case hR =>
        exact ⟨by omega, by omega⟩

-- (*spec.l00Src).pick
set_option maxRecDepth 20000 in
set_option maxHeartbeats 2000000 in
theorem D_spec_l00Src_pick (cs : List Int) (a s : Int) (n : Int) (hc : cs.length ≤ 17592186044416) (hb : byteL cs) (ha : 0 ≤ a ∧ a ≤ 3999999999999999998) (hn : -1000000000000 ≤ n ∧ n ≤ 1000000000000) : DenXR Try.prog 102 [(1000000, .box 133 (src cs a s))] [.ptr 1000000 0, .s (.int .i64 n)] (τ := Int × Int × Int) (fun (v, a1, s1) => (0 ≤ v ∧ (v = 0 ∨ v < n)) ∧ (a ≤ a1 ∧ a1 ≤ a + 2)) (fun (v, a1, s1) => [(1000000, .box 133 (src cs a1 s1))]) (fun (v, a1, s1) => .s (.int .i64 v)) := by
  refine denXR_of_good Try.func102 (by decide) rfl (Nat.le_of_ble_eq_true rfl) (Nat.le_of_ble_eq_true rfl) rfl ?_
  refine good_seq fun K1 hK1 => ?_
  refine good_region rfl ?_
  refine ev_q rfl (q_assign (by conv => lhs; whnf) ?_)
  refine ev_nil (hK1 _ ?_); clear hK1
  refine good_seq fun K2 hK2 => ?_
  refine good_seq fun K3 hK3 => ?_
  refine good_region rfl ?_
  refine ev_q rfl (q_move (by conv => lhs; whnf) ?_)
  refine ev_q rfl (q_int rfl rfl ?_)
  intro b4 hb4; cases b4
  · replace hb4 := dF hb4
    refine ev_nil (hK3 _ ?_); clear hK3
    refine good_condF rfl ?_
    refine good_skip (hK2 _ ?_); clear hK2
    refine good_seq fun K5 hK5 => ?_
    refine good_region rfl ?_
    refine ev_q rfl (q_move (by conv => lhs; whnf) ?_)
    refine ev_k rfl (k_callR [(1000000, 1000000)] (D_spec_l00Src_next cs _ _  hc hb (by omega)) rfl (rfl) (rfl) ⟨rfl, trivial⟩ rfl (by rintro ⟨v6, a6, s6⟩ ⟨hx6_0, hx6_1⟩; exact ⟨⟨rfl, rfl, trivial⟩, rfl⟩) rfl rfl ?_)
    rintro ⟨v6, a6, s6⟩ ⟨hx6_0, hx6_1⟩
    refine ev_q rfl (q_assign (by conv => lhs; whnf) ?_)
    refine ev_nil (hK5 _ ?_); clear hK5
    refine good_seq fun K7 hK7 => ?_
    refine good_seq fun K8 hK8 => ?_
    refine good_region rfl ?_
    refine ev_q rfl (q_move (by conv => lhs; whnf) ?_)
    refine ev_q rfl (q_int rfl rfl ?_)
    intro b9 hb9; cases b9
    · replace hb9 := dF hb9
      refine ev_nil (hK8 _ ?_); clear hK8
      refine good_condF rfl ?_
      refine good_skip (hK7 _ ?_); clear hK7
      refine good_seq fun K10 hK10 => ?_
      refine good_region rfl ?_
      refine ev_q rfl (q_move (by conv => lhs; whnf) ?_)
      refine ev_q rfl (q_move (by conv => lhs; whnf) ?_)
      refine ev_q rfl (q_int rfl rfl ⟨by omega, ?_⟩)
      intro n11 hn11
      replace hn11 := remE hn11 (by omega)
      have hr : 0 ≤ n11 ∧ n11 < n := by rw [hn11]; exact ⟨Int.emod_nonneg _ (by omega), Int.emod_lt_of_pos _ (by omega)⟩
      refine ev_q rfl (q_assign (by conv => lhs; whnf) ?_)
      refine ev_nil (hK10 _ ?_); clear hK10
      refine good_ret ?_
      repeat (first | refine thenQ_ret ?_ | refine blockQ_ret ?_)
      apply ex_3
      case hF =>
        refine fx_tmp rfl (by conv => lhs; whnf) ?_
        exact ⟨_, conv_eq (by first | rfl | exact fI (by first | omega | grind) | (exfalso; first | omega | grind)), weakH_box (boxEq (by first | rfl | (rw [e]; done) | (rw [e]; rfl) | (simp_all; done))) rfl (weakH_none _), refsIn_ok rfl⟩
      case hR =>
        exact ⟨by omega, by omega⟩
    · replace hb9 := dT hb9
      refine ev_nil (hK8 _ ?_); clear hK8
      refine good_condT rfl ?_
      refine good_region rfl ?_
      refine ev_q rfl (q_move (by conv => lhs; whnf) ?_)
      refine ev_q rfl (q_int rfl rfl ?_)
      intro n12 hn12
      replace hn12 := in64 hn12 (by omega) (by omega)
      refine ev_q rfl (q_move (by conv => lhs; whnf) ?_)
      refine ev_k rfl (k_callR [(1000000, 1000000)] (D_spec_l00Src_next cs _ _  hc hb (by omega)) rfl (rfl) (rfl) ⟨rfl, trivial⟩ rfl (by rintro ⟨v13, a13, s13⟩ ⟨hx13_0, hx13_1⟩; exact ⟨⟨rfl, rfl, trivial⟩, rfl⟩) rfl rfl ?_)
      rintro ⟨v13, a13, s13⟩ ⟨hx13_0, hx13_1⟩
      refine ev_q rfl (q_int rfl rfl ?_)
      intro n14 hn14
      replace hn14 := in64 hn14 (by omega) (by omega)
      refine ev_q rfl (q_assign (by conv => lhs; whnf) ?_)
      refine ev_nil (hK7 _ ?_); clear hK7
      refine good_seq fun K15 hK15 => ?_
      refine good_region rfl ?_
      refine ev_q rfl (q_move (by conv => lhs; whnf) ?_)
      refine ev_q rfl (q_move (by conv => lhs; whnf) ?_)
      refine ev_q rfl (q_int rfl rfl ⟨by omega, ?_⟩)
      intro n16 hn16
      replace hn16 := remE hn16 (by omega)
      have hr : 0 ≤ n16 ∧ n16 < n := by rw [hn16]; exact ⟨Int.emod_nonneg _ (by omega), Int.emod_lt_of_pos _ (by omega)⟩
      refine ev_q rfl (q_assign (by conv => lhs; whnf) ?_)
      refine ev_nil (hK15 _ ?_); clear hK15
      refine good_ret ?_
      repeat (first | refine thenQ_ret ?_ | refine blockQ_ret ?_)
      apply ex_3
      case hF =>
        refine fx_tmp rfl (by conv => lhs; whnf) ?_
        exact ⟨_, conv_eq (by first | rfl | exact fI (by first | omega | grind) | (exfalso; first | omega | grind)), weakH_box (boxEq (by first | rfl | (rw [e]; done) | (rw [e]; rfl) | (simp_all; done))) rfl (weakH_none _), refsIn_ok rfl⟩
      case hR =>
        exact ⟨by omega, by omega⟩
  · replace hb4 := dT hb4
    refine ev_nil (hK3 _ ?_); clear hK3
    refine good_condT rfl ?_
    refine good_seq fun K17 hK17 => ?_
    refine good_region rfl ?_
    refine ev_q rfl (q_assign (by conv => lhs; whnf) ?_)
    refine ev_nil (hK17 _ ?_); clear hK17
    refine good_ret ?_
    repeat (first | refine thenQ_ret ?_ | refine blockQ_ret ?_)
    clear hK2
    apply ex_3
    case hF =>
      refine fx_tmp rfl (by conv => lhs; whnf) ?_
      exact ⟨_, conv_eq (by first | rfl | exact fI (by first | omega | grind) | (exfalso; first | omega | grind)), weakH_box (boxEq (by first | rfl | (rw [e]; done) | (rw [e]; rfl) | (simp_all; done))) rfl (weakH_none _), refsIn_ok rfl⟩
    case hR =>
      exact ⟨by omega, by omega⟩

-- (*spec.l00Src).one
set_option maxRecDepth 20000 in
set_option maxHeartbeats 2000000 in
theorem D_spec_l00Src_one (cs : List Int) (a s : Int) (n : Int) (hc : cs.length ≤ 17592186044416) (hb : byteL cs) (ha : 0 ≤ a ∧ a ≤ 3999999999999999998) (hn : -1000000000000 ≤ n ∧ n ≤ 1000000000000) : DenXR Try.prog 106 [(1000000, .box 133 (src cs a s))] [.ptr 1000000 0, .s (.int .i64 n)] (τ := Bool × Int × Int) (fun (v, a1, s1) => a ≤ a1 ∧ a1 ≤ a + 2) (fun (v, a1, s1) => [(1000000, .box 133 (src cs a1 s1))]) (fun (v, a1, s1) => .s (.bool v)) := by
  refine denXR_of_good Try.func106 (by decide) rfl (Nat.le_of_ble_eq_true rfl) (Nat.le_of_ble_eq_true rfl) rfl ?_
  refine good_seq fun K1 hK1 => ?_
  refine good_region rfl ?_
  refine ev_q rfl (q_assign (by conv => lhs; whnf) ?_)
  refine ev_nil (hK1 _ ?_); clear hK1
  refine good_seq fun K2 hK2 => ?_
  refine good_region rfl ?_
  refine ev_q rfl (q_move (by conv => lhs; whnf) ?_)
  refine ev_q rfl (q_move (by conv => lhs; whnf) ?_)
  refine ev_k rfl (k_callR [(1000000, 1000000)] (D_spec_l00Src_pick cs _ _ _ hc hb (by omega) (by omega)) rfl (rfl) (rfl) ⟨rfl, trivial⟩ rfl (by rintro ⟨v3, a3, s3⟩ ⟨hx3_0, hx3_1⟩; exact ⟨⟨rfl, rfl, trivial⟩, rfl⟩) rfl rfl ?_)
  rintro ⟨v3, a3, s3⟩ ⟨hx3_0, hx3_1⟩
  refine ev_q rfl (q_int rfl rfl ?_)
  intro b4 hb4; cases b4
  · replace hb4 := eqF hb4
    refine ev_q rfl (q_assign (by conv => lhs; whnf) ?_)
    refine ev_nil (hK2 _ ?_); clear hK2
    refine good_ret ?_
    repeat (first | refine thenQ_ret ?_ | refine blockQ_ret ?_)
    apply ex_3
    case hF =>
      refine fx_tmp rfl (by conv => lhs; whnf) ?_
      exact ⟨_, conv_eq (by first | rfl | exact fT (by first | omega | grind) | exact fF (by first | omega | grind) | exact fT' (by first | omega | grind) | (exfalso; first | omega | grind)), weakH_box (boxEq (by first | rfl | (rw [e]; done) | (rw [e]; rfl) | (simp_all; done))) rfl (weakH_none _), refsIn_ok rfl⟩
    case hR =>
      exact ⟨by omega, by omega⟩
  · replace hb4 := eqT hb4
    refine ev_q rfl (q_assign (by conv => lhs; whnf) ?_)
    refine ev_nil (hK2 _ ?_); clear hK2
    refine good_ret ?_
    repeat (first | refine thenQ_ret ?_ | refine blockQ_ret ?_)
    apply ex_3
    case hF =>
      refine fx_tmp rfl (by conv => lhs; whnf) ?_
      exact ⟨_, conv_eq (by first | rfl | exact fT (by first | omega | grind) | exact fF (by first | omega | grind) | exact fT' (by first | omega | grind) | (exfalso; first | omega | grind)), weakH_box (boxEq (by first | rfl | (rw [e]; done) | (rw [e]; rfl) | (simp_all; done))) rfl (weakH_none _), refsIn_ok rfl⟩
    case hR =>
      exact ⟨by omega, by omega⟩

-- (*spec.l00Src).among
set_option maxRecDepth 20000 in
set_option maxHeartbeats 2000000 in
theorem D_spec_l00Src_among (cs : List Int) (a s : Int) (xs : List Int) (hc : cs.length ≤ 17592186044416) (hb : byteL cs) (ha : 0 ≤ a ∧ a ≤ 3999999999999999998) (hx : 1 ≤ xs.length ∧ xs.length ≤ 1000000) : DenXR Try.prog 99 [(1000000, .box 133 (src cs a s)), (1000001, .row 2 1 (xs.map ci))] [.ptr 1000000 0, .own 1000001 xs.length] (τ := Int × Int × Int) (fun (v, a1, s1) => (v ∈ xs) ∧ (a ≤ a1 ∧ a1 ≤ a + 2)) (fun (v, a1, s1) => [(1000000, .box 133 (src cs a1 s1)), (1000001, .row 2 1 (xs.map ci))]) (fun (v, a1, s1) => .s (.int .i64 v)) := by
  refine denXR_of_good Try.func99 (by decide) rfl (Nat.le_of_ble_eq_true rfl) (Nat.le_of_ble_eq_true rfl) rfl ?_
  refine good_seq fun K1 hK1 => ?_
  refine good_region rfl ?_
  refine ev_q rfl (q_assign (by conv => lhs; whnf) ?_)
  refine ev_nil (hK1 _ ?_); clear hK1
  refine good_seq fun K2 hK2 => ?_
  refine good_region rfl ?_
  refine ev_q rfl (q_move (by conv => lhs; whnf) ?_)
  refine ev_q rfl (q_move (by conv => lhs; whnf) ?_)
  refine ev_q rfl (q_move (by conv => lhs; whnf) ?_)
  refine ev_q rfl (q_len tEs22 rfl ?_)
  intro n3 hn3
  try simp only [List.length_map] at hn3
  refine ev_k rfl (k_callR [(1000000, 1000000)] (D_spec_l00Src_pick cs _ _ _ hc hb (by omega) (by omega)) rfl (rfl) (rfl) ⟨rfl, trivial⟩ rfl (by rintro ⟨v4, a4, s4⟩ ⟨hx4_0, hx4_1⟩; exact ⟨⟨rfl, rfl, trivial⟩, rfl⟩) rfl rfl ?_)
  rintro ⟨v4, a4, s4⟩ ⟨hx4_0, hx4_1⟩
  obtain ⟨p, hp⟩ := getL (xs := xs) (n := v4) (by omega) (by omega)
  refine ev_q rfl (q_idxO tE22 rfl rfl rfl (by omega) (by omega) rfl ?_)
  refine ev_q rfl (q_loadE tA2 rfl rfl (by exact map_get hp) rfl ?_)
  refine ev_q rfl (q_assign (by conv => lhs; whnf) ?_)
  refine ev_nil (hK2 _ ?_); clear hK2
  refine good_ret ?_
  repeat (first | refine thenQ_ret ?_ | refine blockQ_ret ?_)
  apply ex_3
  case hF =>
    refine fx_tmp rfl (by conv => lhs; whnf) ?_
    exact ⟨_, conv_eq (by first | rfl | exact fI (by first | omega | grind) | (exfalso; first | omega | grind)), weakH_box (boxEq (by first | rfl | (rw [e]; done) | (rw [e]; rfl) | (simp_all; done))) rfl (weakH_row (rowEq (by first | rfl | (rw [e]; done) | (rw [e]; rfl) | (simp_all; done))) (weakH_none _)), refsIn_ok rfl⟩
  case hR =>
    exact ⟨List.mem_of_getElem? hp, by omega, by omega⟩

-- spec.l02DrawFlow
set_option maxRecDepth 20000 in
set_option maxHeartbeats 2000000 in
theorem D_spec_l02DrawFlow (cs : List Int) (a s : Int) (hc : cs.length ≤ 17592186044416) (hb : byteL cs) (ha : 0 ≤ a ∧ a ≤ 3999999999999999996)  : DenXR Try.prog 103 [(1000000, .box 133 (src cs a s))] [.ptr 1000000 0] (τ := Int × Int × Int) (fun (v, a1, s1) => (-100000000000 ≤ v ∧ v ≤ 100000000000) ∧ (a ≤ a1 ∧ a1 ≤ a + 4)) (fun (v, a1, s1) => [(1000000, .box 133 (src cs a1 s1))]) (fun (v, a1, s1) => .s (.int .i64 v)) := by
  refine denXR_of_good Try.func103 (by decide) rfl (Nat.le_of_ble_eq_true rfl) (Nat.le_of_ble_eq_true rfl) rfl ?_
  refine good_seq fun K1 hK1 => ?_
  refine good_region rfl ?_
  refine ev_q rfl (q_assign (by conv => lhs; whnf) ?_)
  refine ev_nil (hK1 _ ?_); clear hK1
  refine good_seq fun K2 hK2 => ?_
  refine good_seq fun K3 hK3 => ?_
  refine good_region rfl ?_
  refine ev_q rfl (q_move (by conv => lhs; whnf) ?_)
  refine ev_k rfl (k_callR [(1000000, 1000000)] (D_spec_l00Src_one cs _ _ _ hc hb (by omega) (by omega)) rfl (rfl) (rfl) ⟨rfl, trivial⟩ rfl (by rintro ⟨v4, a4, s4⟩ ⟨hx4_0, hx4_1⟩; exact ⟨⟨rfl, rfl, trivial⟩, rfl⟩) rfl rfl ?_)
  rintro ⟨v4, a4, s4⟩ ⟨hx4_0, hx4_1⟩
  cases v4
  · refine ev_nil (hK3 _ ?_); clear hK3
    refine good_condF rfl ?_
    refine good_skip (hK2 _ ?_); clear hK2
    refine good_seq fun K5 hK5 => ?_
    refine good_region rfl ?_
    refine ev_q rfl (q_move (by conv => lhs; whnf) ?_)
    refine ev_k rfl (k_callR [(1000000, 1000000)] (D_spec_l00Src_pick cs _ _ _ hc hb (by omega) (by omega)) rfl (rfl) (rfl) ⟨rfl, trivial⟩ rfl (by rintro ⟨v6, a6, s6⟩ ⟨hx6_0, hx6_1⟩; exact ⟨⟨rfl, rfl, trivial⟩, rfl⟩) rfl rfl ?_)
    rintro ⟨v6, a6, s6⟩ ⟨hx6_0, hx6_1⟩
    refine ev_q rfl (q_int rfl rfl ?_)
    intro n7 hn7
    replace hn7 := in64 hn7 (by omega) (by omega)
    refine ev_q rfl (q_assign (by conv => lhs; whnf) ?_)
    refine ev_nil (hK5 _ ?_); clear hK5
    refine good_ret ?_
    repeat (first | refine thenQ_ret ?_ | refine blockQ_ret ?_)
    apply ex_3
    case hF =>
      refine fx_tmp rfl (by conv => lhs; whnf) ?_
      exact ⟨_, conv_eq (by first | rfl | exact fI (by first | omega | grind) | (exfalso; first | omega | grind)), weakH_box (boxEq (by first | rfl | (rw [e]; done) | (rw [e]; rfl) | (simp_all; done))) rfl (weakH_none _), refsIn_ok rfl⟩
    case hR =>
      exact ⟨by omega, by omega⟩
  · refine ev_nil (hK3 _ ?_); clear hK3
    refine good_condT rfl ?_
    refine good_seq fun K8 hK8 => ?_
    refine good_region rfl ?_
    refine ev_q rfl (q_move (by conv => lhs; whnf) ?_)
    refine ev_k rfl (k_lit tE22 zA2 rfl rfl (by decide) (by decide) rfl rfl rfl ?_)
    refine ev_k rfl (k_callR [(1000000, 1000000), (1000001, 6)] (D_spec_l00Src_among cs _ _ [(-1), 0, 100000, 100001] hc hb (by omega) (by decide)) rfl (rfl) (rfl) ⟨rfl, ⟨rfl, trivial⟩⟩ rfl (by rintro ⟨v9, a9, s9⟩ ⟨hx9_0, hx9_1⟩; exact ⟨⟨rfl, rfl, ⟨rfl, ⟨rfl, rfl, by first | exact Nat.le_refl _ | (simp; done) | (simp; omega)⟩, trivial⟩⟩, rfl⟩) rfl rfl ?_)
    rintro ⟨v9, a9, s9⟩ ⟨hx9_0, hx9_1⟩
    simp only [List.mem_cons, List.not_mem_nil, or_false] at hx9_0
    refine ev_q rfl (q_assign (by conv => lhs; whnf) ?_)
    refine ev_nil (hK8 _ ?_); clear hK8
    refine good_ret ?_
    repeat (first | refine thenQ_ret ?_ | refine blockQ_ret ?_)
    clear hK2
    apply ex_3
    case hF =>
      refine fx_tmp rfl (by conv => lhs; whnf) ?_
      exact ⟨_, conv_eq (by first | rfl | exact fI (by first | omega | grind) | (exfalso; first | omega | grind)), weakH_box (boxEq (by first | rfl | (rw [e]; done) | (rw [e]; rfl) | (simp_all; done))) rfl (weakH_none _), refsIn_ok rfl⟩
    case hR =>
      exact ⟨by omega, by omega⟩

-- spec.l02DrawDegrees
set_option maxRecDepth 20000 in
set_option maxHeartbeats 2000000 in
theorem D_spec_l02DrawDegrees (cs : List Int) (a s : Int) (hc : cs.length ≤ 17592186044416) (hb : byteL cs) (ha : 0 ≤ a ∧ a ≤ 3999999999999999996)  : DenXR Try.prog 104 [(1000000, .box 133 (src cs a s))] [.ptr 1000000 0] (τ := Int × Int × Int) (fun (v, a1, s1) => (-100000000000 ≤ v ∧ v ≤ 100000000000) ∧ (a ≤ a1 ∧ a1 ≤ a + 4)) (fun (v, a1, s1) => [(1000000, .box 133 (src cs a1 s1))]) (fun (v, a1, s1) => .s (.int .i64 v)) := by
  refine denXR_of_good Try.func104 (by decide) rfl (Nat.le_of_ble_eq_true rfl) (Nat.le_of_ble_eq_true rfl) rfl ?_
  refine good_seq fun K1 hK1 => ?_
  refine good_region rfl ?_
  refine ev_q rfl (q_assign (by conv => lhs; whnf) ?_)
  refine ev_nil (hK1 _ ?_); clear hK1
  refine good_seq fun K2 hK2 => ?_
  refine good_seq fun K3 hK3 => ?_
  refine good_region rfl ?_
  refine ev_q rfl (q_move (by conv => lhs; whnf) ?_)
  refine ev_k rfl (k_callR [(1000000, 1000000)] (D_spec_l00Src_one cs _ _ _ hc hb (by omega) (by omega)) rfl (rfl) (rfl) ⟨rfl, trivial⟩ rfl (by rintro ⟨v4, a4, s4⟩ ⟨hx4_0, hx4_1⟩; exact ⟨⟨rfl, rfl, trivial⟩, rfl⟩) rfl rfl ?_)
  rintro ⟨v4, a4, s4⟩ ⟨hx4_0, hx4_1⟩
  cases v4
  · refine ev_nil (hK3 _ ?_); clear hK3
    refine good_condF rfl ?_
    refine good_skip (hK2 _ ?_); clear hK2
    refine good_seq fun K5 hK5 => ?_
    refine good_region rfl ?_
    refine ev_q rfl (q_move (by conv => lhs; whnf) ?_)
    refine ev_k rfl (k_callR [(1000000, 1000000)] (D_spec_l00Src_pick cs _ _ _ hc hb (by omega) (by omega)) rfl (rfl) (rfl) ⟨rfl, trivial⟩ rfl (by rintro ⟨v6, a6, s6⟩ ⟨hx6_0, hx6_1⟩; exact ⟨⟨rfl, rfl, trivial⟩, rfl⟩) rfl rfl ?_)
    rintro ⟨v6, a6, s6⟩ ⟨hx6_0, hx6_1⟩
    refine ev_q rfl (q_int rfl rfl ?_)
    intro n7 hn7
    replace hn7 := in64 hn7 (by omega) (by omega)
    refine ev_q rfl (q_assign (by conv => lhs; whnf) ?_)
    refine ev_nil (hK5 _ ?_); clear hK5
    refine good_ret ?_
    repeat (first | refine thenQ_ret ?_ | refine blockQ_ret ?_)
    apply ex_3
    case hF =>
      refine fx_tmp rfl (by conv => lhs; whnf) ?_
      exact ⟨_, conv_eq (by first | rfl | exact fI (by first | omega | grind) | (exfalso; first | omega | grind)), weakH_box (boxEq (by first | rfl | (rw [e]; done) | (rw [e]; rfl) | (simp_all; done))) rfl (weakH_none _), refsIn_ok rfl⟩
    case hR =>
      exact ⟨by omega, by omega⟩
  · refine ev_nil (hK3 _ ?_); clear hK3
    refine good_condT rfl ?_
    refine good_seq fun K8 hK8 => ?_
    refine good_region rfl ?_
    refine ev_q rfl (q_move (by conv => lhs; whnf) ?_)
    refine ev_k rfl (k_lit tE22 zA2 rfl rfl (by decide) (by decide) rfl rfl rfl ?_)
    refine ev_k rfl (k_callR [(1000000, 1000000), (1000001, 6)] (D_spec_l00Src_among cs _ _ [(-1), 0, 18000, 18001, 2000, 10000] hc hb (by omega) (by decide)) rfl (rfl) (rfl) ⟨rfl, ⟨rfl, trivial⟩⟩ rfl (by rintro ⟨v9, a9, s9⟩ ⟨hx9_0, hx9_1⟩; exact ⟨⟨rfl, rfl, ⟨rfl, ⟨rfl, rfl, by first | exact Nat.le_refl _ | (simp; done) | (simp; omega)⟩, trivial⟩⟩, rfl⟩) rfl rfl ?_)
    rintro ⟨v9, a9, s9⟩ ⟨hx9_0, hx9_1⟩
    simp only [List.mem_cons, List.not_mem_nil, or_false] at hx9_0
    refine ev_q rfl (q_assign (by conv => lhs; whnf) ?_)
    refine ev_nil (hK8 _ ?_); clear hK8
    refine good_ret ?_
    repeat (first | refine thenQ_ret ?_ | refine blockQ_ret ?_)
    clear hK2
    apply ex_3
    case hF =>
      refine fx_tmp rfl (by conv => lhs; whnf) ?_
      exact ⟨_, conv_eq (by first | rfl | exact fI (by first | omega | grind) | (exfalso; first | omega | grind)), weakH_box (boxEq (by first | rfl | (rw [e]; done) | (rw [e]; rfl) | (simp_all; done))) rfl (weakH_none _), refsIn_ok rfl⟩
    case hR =>
      exact ⟨by omega, by omega⟩

-- spec.l00From
set_option maxRecDepth 20000 in
set_option maxHeartbeats 2000000 in
theorem D_spec_l00From (cs : List Int)  : DenX Try.prog 97 [] [.lst 1 (cs.map cb)] [(5, .box 133 (src cs 0 0))] (.ptr 5 0) := by
  refine denX_of_good Try.func97 (by decide) rfl (Nat.le_of_ble_eq_true rfl) (Nat.le_of_ble_eq_true rfl) rfl ?_
  refine good_seq fun K1 hK1 => ?_
  refine good_region rfl ?_
  refine ev_q rfl (q_assign (by conv => lhs; whnf) ?_)
  refine ev_nil (hK1 _ ?_); clear hK1
  refine good_seq fun K2 hK2 => ?_
  refine good_region rfl ?_
  refine ev_q rfl (q_move (by conv => lhs; whnf) ?_)
  refine ev_k rfl (k_build zA133 pl133 (rfl) ?_)
  refine ev_k rfl (k_box (by conv => lhs; whnf) rfl rfl rfl ?_)
  refine ev_q rfl (q_assign (by conv => lhs; whnf) ?_)
  refine ev_nil (hK2 _ ?_); clear hK2
  refine good_ret ?_
  repeat (first | refine thenQ_ret ?_ | refine blockQ_ret ?_)
  refine fx_tmp rfl (by conv => lhs; whnf) ?_
  exact ⟨_, conv_eq (by first | rfl | (rw [e]; done) | (rw [e]; rfl) | exact ownEq (by first | omega | simp_all)), weakH_box (boxEq (by first | rfl | (rw [e]; done) | (rw [e]; rfl) | (simp_all; done))) rfl (weakH_none _), refsIn_ok rfl⟩

-- spec.DrawMixWater
set_option maxRecDepth 20000 in
set_option maxHeartbeats 2000000 in
theorem D_spec_DrawMixWater_X (cs : List Int) (hc : cs.length ≤ 17592186044416) (hb : byteL cs) : DenXR Try.prog 45 [] [.lst 1 (cs.map cb)] (τ := List Int × List Int) (fun (f, t) => f.length ≤ 70 ∧ t.length ≤ 70) (fun (f, t) => [(900001, .row 2 1 (f.map ci)), (900002, .row 2 1 (t.map ci))]) (fun (f, t) => .tup [.own 900001 f.length, .own 900002 t.length]) := by
  refine denXR_of_good Try.func45 (by decide) rfl (Nat.le_of_ble_eq_true rfl) (Nat.le_of_ble_eq_true rfl) rfl ?_
  refine good_seq fun K1 hK1 => ?_
  refine good_region rfl ?_
  refine ev_q rfl (q_assign (by conv => lhs; whnf) ?_)
  refine ev_q rfl (q_assign (by conv => lhs; whnf) ?_)
  refine ev_nil (hK1 _ ?_); clear hK1
  refine good_seq fun K2 hK2 => ?_
  refine good_region rfl ?_
  refine ev_q rfl (q_move (by conv => lhs; whnf) ?_)
  refine ev_k rfl (k_callX [(5, 900000)] (D_spec_l00From cs) rfl (rfl) (rfl) trivial ⟨⟨rfl, show (900000 : Nat) < 1000000 by decide⟩, trivial⟩ rfl rfl rfl ?_)
  refine ev_q rfl (q_assign (by conv => lhs; whnf) ?_)
  refine ev_nil (hK2 _ ?_); clear hK2
  refine good_seq fun K3 hK3 => ?_
  refine good_region rfl ?_
  refine ev_k rfl (k_lit tE22 zA2 rfl rfl (by decide) (by decide) rfl rfl rfl ?_)
  refine ev_q rfl (q_assign (by conv => lhs; whnf) ?_)
  refine ev_nil (hK3 _ ?_); clear hK3
  refine good_seq fun K4 hK4 => ?_
  refine good_region rfl ?_
  refine ev_k rfl (k_lit tE22 zA2 rfl rfl (by decide) (by decide) rfl rfl rfl ?_)
  refine ev_q rfl (q_assign (by conv => lhs; whnf) ?_)
  refine ev_nil (hK4 _ ?_); clear hK4
  refine good_seq fun K5 hK5 => ?_
  refine good_seq fun K6 hK6 => ?_
  refine good_region rfl ?_
  refine ev_q rfl (q_move (by conv => lhs; whnf) ?_)
  refine ev_k rfl (k_callR [(1000000, 900000)] (D_spec_l00Src_pick cs _ _ _ hc hb (by omega) (by omega)) rfl (rfl) (rfl) ⟨rfl, trivial⟩ rfl (by rintro ⟨v7, a7, s7⟩ ⟨hx7_0, hx7_1⟩; exact ⟨⟨rfl, rfl, trivial⟩, rfl⟩) rfl rfl ?_)
  rintro ⟨v7, a7, s7⟩ ⟨hx7_0, hx7_1⟩
  refine ev_q rfl (q_assign (by conv => lhs; whnf) ?_)
  refine ev_nil (hK6 _ ?_); clear hK6
  refine good_block ?_
  refine good_loop (α := List Int × List Int × Int × Int × Int) (fun (f, t, k, a1, s1) => { env := upd (upd (upd (upd ((fun _ => .junk)) 4 (.ptr 900000 0)) 5 (.own 23 f.length)) 6 (.own 28 t.length)) 7 (.s (.int .i64 k)), H := upd (upd (upd ((fun _ => none)) 900000 (some (.box 133 (src cs a1 s1)))) 28 (some (.row 2 1 (t.map ci)))) 23 (some (.row 2 1 (f.map ci))) }) (fun (f, t, k, a1, s1) => (f.length + k ≤ 6 ∧ t.length + k ≤ 6 ∧ 0 ≤ k) ∧ (0 ≤ a1 ∧ a1 ≤ 1000 - 100 * k)) (fun (f, t, k, a1, s1) => k.toNat) ([], [], v7, a7, s7) ?_ ?_ ?_
  · exact ⟨by simp; omega, by omega⟩
  · refine Sub.trans (sub_move 5 11 23 rfl rfl rfl (by decide)) ?_
    refine Sub.trans (sub_move 6 12 28 rfl rfl rfl (by decide)) ?_
    refine sub_weak ?_ ?_
    · exact weakH_row (rowEq (rfl)) (weakH_row (rowEq (rfl)) (weakH_box (boxEq (rfl)) rfl (weakH_none _)))
    · refine weakE_upd ?e7 ?r7 (weakE_upd ?e6 ?r6 (weakE_upd ?e5 ?r5 (weakE_upd ?e4 ?r4 (weakE_junk _ _))))
      case e4 => first | rfl | exact fI (by omega) | (simp_all)
      case r4 => intro h hh; simp [refs] at hh; subst hh; rfl
      case e5 => first | rfl | exact fI (by omega) | (first | rfl | exact ownEq (by simp))
      case r5 => intro h hh; simp [refs] at hh; subst hh; rfl
      case e6 => first | rfl | exact fI (by omega) | (first | rfl | exact ownEq (by simp))
      case r6 => intro h hh; simp [refs] at hh; subst hh; rfl
      case e7 => first | rfl | exact fI (by omega) | (simp_all)
      case r7 => intro h hh; cases hh
  · rintro ⟨f, t, k, a1, s1⟩ ⟨hI, hJ⟩
    refine good_seq fun K8 hK8 => ?_
    refine good_seq fun K9 hK9 => ?_
    refine good_region rfl ?_
    refine ev_q rfl (q_move (by conv => lhs; whnf) ?_)
    refine ev_q rfl (q_int rfl rfl ?_)
    intro b10 hb10; cases b10
    · replace hb10 := dF hb10
      refine ev_nil (hK9 _ ?_); clear hK9
      refine good_condF rfl ?_
      refine good_exit ?_
      repeat (first | refine thenQ_exit ?_ | refine blockQ_pass rfl ?_)
      refine blockQ_exit (hK5 _ ?_); clear hK5
      refine good_seq fun K11 hK11 => ?_
      refine good_seq fun K12 hK12 => ?_
      refine good_region rfl ?_
      refine ev_q rfl (q_move (by conv => lhs; whnf) ?_)
      refine ev_k rfl (k_callR [(1000000, 900000)] (D_spec_l00Src_pick cs _ _ _ hc hb (by omega) (by omega)) rfl (rfl) (rfl) ⟨rfl, trivial⟩ rfl (by rintro ⟨v13, a13, s13⟩ ⟨hx13_0, hx13_1⟩; exact ⟨⟨rfl, rfl, trivial⟩, rfl⟩) rfl rfl ?_)
      rintro ⟨v13, a13, s13⟩ ⟨hx13_0, hx13_1⟩
      refine ev_nil (hK12 _ ?_); clear hK12
      refine good_block ?_
      refine good_seq fun K14 hK14 => ?_
      refine good_region rfl ?_
      refine ev_q rfl (q_int rfl rfl ?_)
      intro b15 hb15; cases b15
      · replace hb15 := eqF hb15
        refine ev_q rfl (q_assign (by conv => lhs; whnf) ?_)
        refine ev_nil (hK14 _ ?_); clear hK14
        refine good_condF rfl ?_
        refine good_seq fun K16 hK16 => ?_
        refine good_region rfl ?_
        refine ev_q rfl (q_int rfl rfl ?_)
        intro b17 hb17; cases b17
        · replace hb17 := eqF hb17
          refine ev_q rfl (q_assign (by conv => lhs; whnf) ?_)
          refine ev_nil (hK16 _ ?_); clear hK16
          refine good_condF rfl ?_
          refine good_skip (hK11 _ ?_); clear hK11
          refine good_seq fun K18 hK18 => ?_
          refine good_region rfl ?_
          refine ev_q rfl (q_move (by conv => lhs; whnf) ?_)
          refine ev_q rfl (q_move (by conv => lhs; whnf) ?_)
          refine ev_q rfl (q_assign (by conv => lhs; whnf) ?_)
          refine ev_q rfl (q_assign (by conv => lhs; whnf) ?_)
          refine ev_nil (hK18 _ ?_); clear hK18
          refine good_weak (sub_move 2 23 900001 rfl rfl rfl (by decide)) ?_
          refine good_weak (sub_move 3 28 900002 rfl rfl rfl (by decide)) ?_
          refine good_ret ?_
          repeat (first | refine thenQ_ret ?_ | refine blockQ_ret ?_)
          clear hK8
          apply ex_2
          case hF =>
            refine fx_many rfl ?_
            refine fxs_tmp (by conv => lhs; whnf) ?_
            refine fxs_tmp (by conv => lhs; whnf) ?_
            refine fx_nil ?_
            exact ⟨_, .tup (.cons (conv_eq (by first | rfl | (rw [e]; done) | (rw [e]; rfl) | exact ownEq (by first | omega | simp_all))) (.cons (conv_eq (by first | rfl | (rw [e]; done) | (rw [e]; rfl) | exact ownEq (by first | omega | simp_all))) (.nil))), weakH_row (rowEq (by first | rfl | (rw [List.map_append]; rfl) | exact repC)) (weakH_row (rowEq (by first | rfl | (rw [List.map_append]; rfl) | exact repC)) (weakH_none _)), refsIn_ok rfl⟩
          case hR =>
            exact ⟨by first | omega | (simp; omega), by first | omega | (simp; omega)⟩
        · replace hb17 := eqT hb17
          refine ev_q rfl (q_assign (by conv => lhs; whnf) ?_)
          refine ev_nil (hK16 _ ?_); clear hK16
          refine good_condT rfl ?_
          refine good_seq fun K19 hK19 => ?_
          refine good_region rfl ?_
          refine ev_q rfl (q_move (by conv => lhs; whnf) ?_)
          refine ev_k rfl (k_lit tE22 zA2 rfl rfl (by decide) (by decide) rfl rfl rfl ?_)
          refine ev_k rfl (k_callR [(1000000, 900000), (1000001, 39)] (D_spec_l00Src_among cs _ _ [1, 64, 65] hc hb (by omega) (by decide)) rfl (rfl) (rfl) ⟨rfl, ⟨rfl, trivial⟩⟩ rfl (by rintro ⟨v20, a20, s20⟩ ⟨hx20_0, hx20_1⟩; exact ⟨⟨rfl, rfl, ⟨rfl, ⟨rfl, rfl, by first | exact Nat.le_refl _ | (simp; done) | (simp; omega)⟩, trivial⟩⟩, rfl⟩) rfl rfl ?_)
          rintro ⟨v20, a20, s20⟩ ⟨hx20_0, hx20_1⟩
          simp only [List.mem_cons, List.not_mem_nil, or_false] at hx20_0
          refine ev_q rfl (q_assign (by conv => lhs; whnf) ?_)
          refine ev_nil (hK19 _ ?_); clear hK19
          refine good_seq fun K21 hK21 => ?_
          refine good_any 6 (listed := #[false, false, false, false, false, false]) rfl rfl hmix rfl ?_
          refine tn_first_q (i := 0) (listed' := #[true, false, false, false, false, false]) rfl rfl (by kernel_rfl) rfl (q_move (by conv => lhs; whnf) ?_)
          refine tn_first_q (i := 2) (listed' := #[true, false, true, false, false, false]) rfl rfl (by kernel_rfl) rfl (q_move (by conv => lhs; whnf) ?_)
          refine tn_step [1, 3] (by kernel_rfl) rfl ?_
          refine ⟨?_, ?_, trivial⟩
          · refine tn_k (listed' := #[true, true, true, false, false, false]) rfl rfl rfl rfl (k_make tE22 rfl rfl zA2 tBy2 rfl (by omega) (by omega) (by omega) rfl (by rfl) ?_)
            refine tn_first_q (i := 4) (listed' := #[true, true, true, false, true, false]) rfl rfl (by kernel_rfl) rfl (q_assign (by conv => lhs; whnf) ?_)
            refine tn_step [3] (by kernel_rfl) rfl ?_
            refine ⟨?_, trivial⟩
            · refine tn_k (listed' := #[true, true, true, true, true, false]) rfl rfl rfl rfl (k_make tE22 rfl rfl zA2 tBy2 rfl (by omega) (by omega) (by omega) rfl (by rfl) ?_)
              refine tn_first_q (i := 5) (listed' := #[true, true, true, true, true, true]) rfl rfl (by kernel_rfl) rfl (q_assign (by conv => lhs; whnf) ?_)
              refine tn_end (by kernel_rfl) (hK21 _ ?_); clear hK21
              refine good_weak (sub_move 2 42 900001 rfl rfl rfl (by decide)) ?_
              refine good_weak (sub_move 3 44 900002 rfl rfl rfl (by decide)) ?_
              refine good_ret ?_
              repeat (first | refine thenQ_ret ?_ | refine blockQ_ret ?_)
              clear hK8 hK11
              refine ex_2 (v := List.replicate v20.toNat 0) (a := List.replicate v20.toNat 0) ?hF ?hR
              case hF =>
                refine fx_many rfl ?_
                refine fxs_tmp (by conv => lhs; whnf) ?_
                refine fxs_tmp (by conv => lhs; whnf) ?_
                refine fx_nil ?_
                exact ⟨_, .tup (.cons (conv_eq (by first | rfl | (rw [e]; done) | (rw [e]; rfl) | exact ownEq (by first | omega | simp_all))) (.cons (conv_eq (by first | rfl | (rw [e]; done) | (rw [e]; rfl) | exact ownEq (by first | omega | simp_all))) (.nil))), weakH_row (rowEq (by first | rfl | (rw [List.map_append]; rfl) | exact repC)) (weakH_row (rowEq (by first | rfl | (rw [List.map_append]; rfl) | exact repC)) (weakH_none _)), refsIn_ok rfl⟩
              case hR =>
                exact ⟨by first | omega | (simp; omega), by first | omega | (simp; omega)⟩
          · refine tn_k (listed' := #[true, false, true, true, false, false]) rfl rfl rfl rfl (k_make tE22 rfl rfl zA2 tBy2 rfl (by omega) (by omega) (by omega) rfl (by rfl) ?_)
            refine tn_step [1] (by kernel_rfl) rfl ?_
            refine ⟨?_, trivial⟩
            · refine tn_k (listed' := #[true, true, true, true, false, false]) rfl rfl rfl rfl (k_make tE22 rfl rfl zA2 tBy2 rfl (by omega) (by omega) (by omega) rfl (by rfl) ?_)
              refine tn_first_q (i := 4) (listed' := #[true, true, true, true, true, false]) rfl rfl (by kernel_rfl) rfl (q_assign (by conv => lhs; whnf) ?_)
              refine tn_first_q (i := 5) (listed' := #[true, true, true, true, true, true]) rfl rfl (by kernel_rfl) rfl (q_assign (by conv => lhs; whnf) ?_)
              refine tn_end (by kernel_rfl) (hK21 _ ?_); clear hK21
              refine good_weak (sub_move 2 42 900001 rfl rfl rfl (by decide)) ?_
              refine good_weak (sub_move 3 44 900002 rfl rfl rfl (by decide)) ?_
              refine good_ret ?_
              repeat (first | refine thenQ_ret ?_ | refine blockQ_ret ?_)
              clear hK8 hK11
              refine ex_2 (v := List.replicate v20.toNat 0) (a := List.replicate v20.toNat 0) ?hF ?hR
              case hF =>
                refine fx_many rfl ?_
                refine fxs_tmp (by conv => lhs; whnf) ?_
                refine fxs_tmp (by conv => lhs; whnf) ?_
                refine fx_nil ?_
                exact ⟨_, .tup (.cons (conv_eq (by first | rfl | (rw [e]; done) | (rw [e]; rfl) | exact ownEq (by first | omega | simp_all))) (.cons (conv_eq (by first | rfl | (rw [e]; done) | (rw [e]; rfl) | exact ownEq (by first | omega | simp_all))) (.nil))), weakH_row (rowEq (by first | rfl | (rw [List.map_append]; rfl) | exact repC)) (weakH_row (rowEq (by first | rfl | (rw [List.map_append]; rfl) | exact repC)) (weakH_none _)), refsIn_ok rfl⟩
              case hR =>
                exact ⟨by first | omega | (simp; omega), by first | omega | (simp; omega)⟩
      · replace hb15 := eqT hb15
        refine ev_q rfl (q_assign (by conv => lhs; whnf) ?_)
        refine ev_nil (hK14 _ ?_); clear hK14
        refine good_condT rfl ?_
        refine good_region rfl ?_
        refine ev_q rfl (q_move (by conv => lhs; whnf) ?_)
        refine ev_k rfl (k_lit tE22 zA2 rfl rfl (by decide) (by decide) rfl rfl rfl ?_)
        refine ev_k rfl (k_app tApp22 rfl rfl (by simp) rfl (.inl rfl) (by simp [maxLen]; omega) (by simp; omega) ?_)
        refine ev_q rfl (q_assign (by conv => lhs; whnf) ?_)
        refine ev_nil (hK11 _ ?_); clear hK11
        refine good_seq fun K22 hK22 => ?_
        refine good_region rfl ?_
        refine ev_q rfl (q_move (by conv => lhs; whnf) ?_)
        refine ev_q rfl (q_move (by conv => lhs; whnf) ?_)
        refine ev_q rfl (q_assign (by conv => lhs; whnf) ?_)
        refine ev_q rfl (q_assign (by conv => lhs; whnf) ?_)
        refine ev_nil (hK22 _ ?_); clear hK22
        refine good_weak (sub_move 2 35 900001 rfl rfl rfl (by decide)) ?_
        refine good_weak (sub_move 3 28 900002 rfl rfl rfl (by decide)) ?_
        refine good_ret ?_
        repeat (first | refine thenQ_ret ?_ | refine blockQ_ret ?_)
        clear hK8
        refine ex_2 (v := f ++ [5]) (a := t) ?hF ?hR
        case hF =>
          refine fx_many rfl ?_
          refine fxs_tmp (by conv => lhs; whnf) ?_
          refine fxs_tmp (by conv => lhs; whnf) ?_
          refine fx_nil ?_
          exact ⟨_, .tup (.cons (conv_eq (by first | rfl | (rw [e]; done) | (rw [e]; rfl) | exact ownEq (by first | omega | simp_all))) (.cons (conv_eq (by first | rfl | (rw [e]; done) | (rw [e]; rfl) | exact ownEq (by first | omega | simp_all))) (.nil))), weakH_row (rowEq (by first | rfl | (rw [List.map_append]; rfl) | exact repC)) (weakH_row (rowEq (by first | rfl | (rw [List.map_append]; rfl) | exact repC)) (weakH_none _)), refsIn_ok rfl⟩
        case hR =>
          exact ⟨by first | omega | (simp; omega), by first | omega | (simp; omega)⟩
    · replace hb10 := dT hb10
      refine ev_nil (hK9 _ ?_); clear hK9
      refine good_condT rfl ?_
      refine good_skip (hK8 _ ?_); clear hK8
      refine good_seq fun K23 hK23 => ?_
      refine good_block ?_
      refine good_seq fun K24 hK24 => ?_
      refine good_region rfl ?_
      refine ev_q rfl (q_move (by conv => lhs; whnf) ?_)
      refine ev_q rfl (q_move (by conv => lhs; whnf) ?_)
      refine ev_k rfl (k_callR [(1000000, 900000)] (D_spec_l02DrawFlow cs _ _  hc hb (by omega)) rfl (rfl) (rfl) ⟨rfl, trivial⟩ rfl (by rintro ⟨v25, a25, s25⟩ ⟨hx25_0, hx25_1⟩; exact ⟨⟨rfl, rfl, trivial⟩, rfl⟩) rfl rfl ?_)
      rintro ⟨v25, a25, s25⟩ ⟨hx25_0, hx25_1⟩
      refine ev_k rfl (k_lit tE22 zA2 rfl rfl (by decide) (by decide) rfl rfl rfl ?_)
      refine ev_k rfl (k_app tApp22 rfl rfl (by simp) rfl (.inr rfl) (by simp [maxLen]; omega) (by simp; omega) ?_)
      refine ev_q rfl (q_assign (by conv => lhs; whnf) ?_)
      refine ev_nil (hK24 _ ?_); clear hK24
      refine good_region rfl ?_
      refine ev_q rfl (q_move (by conv => lhs; whnf) ?_)
      refine ev_q rfl (q_move (by conv => lhs; whnf) ?_)
      refine ev_k rfl (k_callR [(1000000, 900000)] (D_spec_l02DrawDegrees cs _ _  hc hb (by omega)) rfl (rfl) (rfl) ⟨rfl, trivial⟩ rfl (by rintro ⟨v26, a26, s26⟩ ⟨hx26_0, hx26_1⟩; exact ⟨⟨rfl, rfl, trivial⟩, rfl⟩) rfl rfl ?_)
      rintro ⟨v26, a26, s26⟩ ⟨hx26_0, hx26_1⟩
      refine ev_k rfl (k_lit tE22 zA2 rfl rfl (by decide) (by decide) rfl rfl rfl ?_)
      refine ev_k rfl (k_app tApp22 rfl rfl (by simp) rfl (.inr rfl) (by simp [maxLen]; omega) (by simp; omega) ?_)
      refine ev_q rfl (q_assign (by conv => lhs; whnf) ?_)
      refine ev_nil (hK23 _ ?_); clear hK23
      refine good_region rfl ?_
      refine ev_q rfl (q_move (by conv => lhs; whnf) ?_)
      refine ev_q rfl (q_int rfl rfl ?_)
      intro n27 hn27
      replace hn27 := in64 hn27 (by omega) (by omega)
      refine ev_q rfl (q_assign (by conv => lhs; whnf) ?_)
      refine ev_nil ?_
      clear hK5
      refine ⟨(f ++ [v25], t ++ [v26], k - 1, a26, s26), ?_, ?_, ?_⟩
      · exact ⟨by simp; omega, by first | omega | (dsimp only; omega)⟩
      · first | omega | (dsimp only; omega)
      · refine sub_weak ?_ ?_
        · exact weakH_row (rowEq (by rw [List.map_append]; rfl)) (weakH_row (rowEq (by rw [List.map_append]; rfl)) (weakH_box (boxEq (rfl)) rfl (weakH_none _)))
        · refine weakE_upd ?e7 ?r7 (weakE_upd ?e6 ?r6 (weakE_upd ?e5 ?r5 (weakE_upd ?e4 ?r4 (weakE_junk _ _))))
          case e4 => first | rfl | exact fI (by omega) | (simp_all)
          case r4 => intro h hh; simp [refs] at hh; subst hh; rfl
          case e5 => first | rfl | exact fI (by omega) | (first | rfl | exact ownEq (by simp))
          case r5 => intro h hh; simp [refs] at hh; subst hh; rfl
          case e6 => first | rfl | exact fI (by omega) | (first | rfl | exact ownEq (by simp))
          case r6 => intro h hh; simp [refs] at hh; subst hh; rfl
          case e7 => first | rfl | exact fI (by omega) | (simp_all)
          case r7 => intro h hh; cases hh
theorem D_spec_DrawMixWater (cs : List Int) (hc : cs.length ≤ 17592186044416) (hb : byteL cs) : DenR Try.prog 45 [.lst 1 (cs.map cb)] (τ := List Int × List Int) (fun (f, t) => f.length ≤ 70 ∧ t.length ≤ 70) (fun (f, t) => .tup [.lst 1 (f.map ci), .lst 1 (t.map ci)]) :=
  denR_of_denXR (D_spec_DrawMixWater_X cs hc hb) (by rintro ⟨f, t⟩ _; change (some (.tup [.lst 1 (List.take f.length (f.map ci)), .lst 1 (List.take t.length (t.map ci))]) : Option AV) = some (.tup [.lst 1 (f.map ci), .lst 1 (t.map ci)]); simp only [takeMap])

-- spec.DrawExpandedVolume
set_option maxRecDepth 20000 in
set_option maxHeartbeats 2000000 in
theorem D_spec_DrawExpandedVolume (cs : List Int) (hc : cs.length ≤ 17592186044416) (hb : byteL cs) : DenXR Try.prog 47 [] [.lst 1 (cs.map cb)] (τ := Int × Int × Int) (fun (l, f, t) => (-1 ≤ l ∧ l ≤ 1000000001) ∧ (-100000000000 ≤ f ∧ f ≤ 100000000000) ∧ (-100000000000 ≤ t ∧ t ≤ 100000000000)) (fun (l, f, t) => []) (fun (l, f, t) => .tup [.s (.int .i64 l), .s (.int .i64 f), .s (.int .i64 t)]) := by
  refine denXR_of_good Try.func47 (by decide) rfl (Nat.le_of_ble_eq_true rfl) (Nat.le_of_ble_eq_true rfl) rfl ?_
  refine good_seq fun K1 hK1 => ?_
  refine good_region rfl ?_
  refine ev_q rfl (q_assign (by conv => lhs; whnf) ?_)
  refine ev_q rfl (q_assign (by conv => lhs; whnf) ?_)
  refine ev_q rfl (q_assign (by conv => lhs; whnf) ?_)
  refine ev_nil (hK1 _ ?_); clear hK1
  refine good_seq fun K2 hK2 => ?_
  refine good_region rfl ?_
  refine ev_q rfl (q_move (by conv => lhs; whnf) ?_)
  refine ev_k rfl (k_callX [(5, 900000)] (D_spec_l00From cs) rfl (rfl) (rfl) trivial ⟨⟨rfl, show (900000 : Nat) < 1000000 by decide⟩, trivial⟩ rfl rfl rfl ?_)
  refine ev_q rfl (q_assign (by conv => lhs; whnf) ?_)
  refine ev_nil (hK2 _ ?_); clear hK2
  refine good_seq fun K3 hK3 => ?_
  refine good_region rfl ?_
  refine ev_q rfl (q_move (by conv => lhs; whnf) ?_)
  refine ev_k rfl (k_callR [(1000000, 900000)] (D_spec_l00Src_pick cs _ _ _ hc hb (by omega) (by omega)) rfl (rfl) (rfl) ⟨rfl, trivial⟩ rfl (by rintro ⟨v4, a4, s4⟩ ⟨hx4_0, hx4_1⟩; exact ⟨⟨rfl, rfl, trivial⟩, rfl⟩) rfl rfl ?_)
  rintro ⟨v4, a4, s4⟩ ⟨hx4_0, hx4_1⟩
  refine ev_q rfl (q_int rfl rfl ?_)
  intro n5 hn5
  replace hn5 := in64 hn5 (by omega) (by omega)
  refine ev_q rfl (q_assign (by conv => lhs; whnf) ?_)
  refine ev_nil (hK3 _ ?_); clear hK3
  refine good_seq fun K6 hK6 => ?_
  refine good_seq fun K7 hK7 => ?_
  refine good_region rfl ?_
  refine ev_q rfl (q_move (by conv => lhs; whnf) ?_)
  refine ev_k rfl (k_callR [(1000000, 900000)] (D_spec_l00Src_one cs _ _ _ hc hb (by omega) (by omega)) rfl (rfl) (rfl) ⟨rfl, trivial⟩ rfl (by rintro ⟨v8, a8, s8⟩ ⟨hx8_0, hx8_1⟩; exact ⟨⟨rfl, rfl, trivial⟩, rfl⟩) rfl rfl ?_)
  rintro ⟨v8, a8, s8⟩ ⟨hx8_0, hx8_1⟩
  cases v8
  · refine ev_nil (hK7 _ ?_); clear hK7
    refine good_condF rfl ?_
    refine good_skip (hK6 _ ?_); clear hK6
    refine good_seq fun K9 hK9 => ?_
    refine good_region rfl ?_
    refine ev_q rfl (q_move (by conv => lhs; whnf) ?_)
    refine ev_k rfl (k_callR [(1000000, 900000)] (D_spec_l02DrawDegrees cs _ _  hc hb (by omega)) rfl (rfl) (rfl) ⟨rfl, trivial⟩ rfl (by rintro ⟨v10, a10, s10⟩ ⟨hx10_0, hx10_1⟩; exact ⟨⟨rfl, rfl, trivial⟩, rfl⟩) rfl rfl ?_)
    rintro ⟨v10, a10, s10⟩ ⟨hx10_0, hx10_1⟩
    refine ev_q rfl (q_assign (by conv => lhs; whnf) ?_)
    refine ev_nil (hK9 _ ?_); clear hK9
    refine good_seq fun K11 hK11 => ?_
    refine good_region rfl ?_
    refine ev_q rfl (q_move (by conv => lhs; whnf) ?_)
    refine ev_q rfl (q_move (by conv => lhs; whnf) ?_)
    refine ev_q rfl (q_move (by conv => lhs; whnf) ?_)
    refine ev_k rfl (k_callR [(1000000, 900000)] (D_spec_l02DrawDegrees cs _ _  hc hb (by omega)) rfl (rfl) (rfl) ⟨rfl, trivial⟩ rfl (by rintro ⟨v12, a12, s12⟩ ⟨hx12_0, hx12_1⟩; exact ⟨⟨rfl, rfl, trivial⟩, rfl⟩) rfl rfl ?_)
    rintro ⟨v12, a12, s12⟩ ⟨hx12_0, hx12_1⟩
    refine ev_q rfl (q_assign (by conv => lhs; whnf) ?_)
    refine ev_q rfl (q_assign (by conv => lhs; whnf) ?_)
    refine ev_q rfl (q_assign (by conv => lhs; whnf) ?_)
    refine ev_nil (hK11 _ ?_); clear hK11
    refine good_ret ?_
    repeat (first | refine thenQ_ret ?_ | refine blockQ_ret ?_)
    refine ex_3 (v := n5) (a := v10) (b := v12) ?hF ?hR
    case hF =>
      refine fx_many rfl ?_
      refine fxs_tmp (by conv => lhs; whnf) ?_
      refine fxs_tmp (by conv => lhs; whnf) ?_
      refine fxs_tmp (by conv => lhs; whnf) ?_
      refine fx_nil ?_
      exact ⟨_, .tup (.cons (conv_eq (by first | rfl | exact fI (by first | omega | grind) | (exfalso; first | omega | grind))) (.cons (conv_eq (by first | rfl | exact fI (by first | omega | grind) | (exfalso; first | omega | grind))) (.cons (conv_eq (by first | rfl | exact fI (by first | omega | grind) | (exfalso; first | omega | grind))) (.nil)))), weakH_none _, refsIn_ok rfl⟩
    case hR =>
      exact ⟨by omega, by omega, by omega⟩
  · refine ev_nil (hK7 _ ?_); clear hK7
    refine good_condT rfl ?_
    refine good_region rfl ?_
    refine ev_q rfl (q_move (by conv => lhs; whnf) ?_)
    refine ev_k rfl (k_lit tE22 zA2 rfl rfl (by decide) (by decide) rfl rfl rfl ?_)
    refine ev_k rfl (k_callR [(1000000, 900000), (1000001, 16)] (D_spec_l00Src_among cs _ _ [(-1), 0, 1000000000, 1000000001] hc hb (by omega) (by decide)) rfl (rfl) (rfl) ⟨rfl, ⟨rfl, trivial⟩⟩ rfl (by rintro ⟨v13, a13, s13⟩ ⟨hx13_0, hx13_1⟩; exact ⟨⟨rfl, rfl, ⟨rfl, ⟨rfl, rfl, by first | exact Nat.le_refl _ | (simp; done) | (simp; omega)⟩, trivial⟩⟩, rfl⟩) rfl rfl ?_)
    rintro ⟨v13, a13, s13⟩ ⟨hx13_0, hx13_1⟩
    simp only [List.mem_cons, List.not_mem_nil, or_false] at hx13_0
    refine ev_q rfl (q_assign (by conv => lhs; whnf) ?_)
    refine ev_nil (hK6 _ ?_); clear hK6
    refine good_seq fun K14 hK14 => ?_
    refine good_region rfl ?_
    refine ev_q rfl (q_move (by conv => lhs; whnf) ?_)
    refine ev_k rfl (k_callR [(1000000, 900000)] (D_spec_l02DrawDegrees cs _ _  hc hb (by omega)) rfl (rfl) (rfl) ⟨rfl, trivial⟩ rfl (by rintro ⟨v15, a15, s15⟩ ⟨hx15_0, hx15_1⟩; exact ⟨⟨rfl, rfl, trivial⟩, rfl⟩) rfl rfl ?_)
    rintro ⟨v15, a15, s15⟩ ⟨hx15_0, hx15_1⟩
    refine ev_q rfl (q_assign (by conv => lhs; whnf) ?_)
    refine ev_nil (hK14 _ ?_); clear hK14
    refine good_seq fun K16 hK16 => ?_
    refine good_region rfl ?_
    refine ev_q rfl (q_move (by conv => lhs; whnf) ?_)
    refine ev_q rfl (q_move (by conv => lhs; whnf) ?_)
    refine ev_q rfl (q_move (by conv => lhs; whnf) ?_)
    refine ev_k rfl (k_callR [(1000000, 900000)] (D_spec_l02DrawDegrees cs _ _  hc hb (by omega)) rfl (rfl) (rfl) ⟨rfl, trivial⟩ rfl (by rintro ⟨v17, a17, s17⟩ ⟨hx17_0, hx17_1⟩; exact ⟨⟨rfl, rfl, trivial⟩, rfl⟩) rfl rfl ?_)
    rintro ⟨v17, a17, s17⟩ ⟨hx17_0, hx17_1⟩
    refine ev_q rfl (q_assign (by conv => lhs; whnf) ?_)
    refine ev_q rfl (q_assign (by conv => lhs; whnf) ?_)
    refine ev_q rfl (q_assign (by conv => lhs; whnf) ?_)
    refine ev_nil (hK16 _ ?_); clear hK16
    refine good_ret ?_
    repeat (first | refine thenQ_ret ?_ | refine blockQ_ret ?_)
    refine ex_3 (v := v13) (a := v15) (b := v17) ?hF ?hR
    case hF =>
      refine fx_many rfl ?_
      refine fxs_tmp (by conv => lhs; whnf) ?_
      refine fxs_tmp (by conv => lhs; whnf) ?_
      refine fxs_tmp (by conv => lhs; whnf) ?_
      refine fx_nil ?_
      exact ⟨_, .tup (.cons (conv_eq (by first | rfl | exact fI (by first | omega | grind) | (exfalso; first | omega | grind))) (.cons (conv_eq (by first | rfl | exact fI (by first | omega | grind) | (exfalso; first | omega | grind))) (.cons (conv_eq (by first | rfl | exact fI (by first | omega | grind) | (exfalso; first | omega | grind))) (.nil)))), weakH_none _, refsIn_ok rfl⟩
    case hR =>
      exact ⟨by omega, by omega, by omega⟩

-- spec.DrawHeadPressure
set_option maxRecDepth 20000 in
set_option maxHeartbeats 2000000 in
theorem D_spec_DrawHeadPressure (cs : List Int) (hc : cs.length ≤ 17592186044416) (hb : byteL cs) : DenXR Try.prog 49 [] [.lst 1 (cs.map cb)] (τ := Int × Int) (fun (h, t) => (-200001 ≤ h ∧ h ≤ 200001) ∧ (-100000000000 ≤ t ∧ t ≤ 100000000000)) (fun (h, t) => []) (fun (h, t) => .tup [.s (.int .i64 h), .s (.int .i64 t)]) := by
  refine denXR_of_good Try.func49 (by decide) rfl (Nat.le_of_ble_eq_true rfl) (Nat.le_of_ble_eq_true rfl) rfl ?_
  refine good_seq fun K1 hK1 => ?_
  refine good_region rfl ?_
  refine ev_q rfl (q_assign (by conv => lhs; whnf) ?_)
  refine ev_q rfl (q_assign (by conv => lhs; whnf) ?_)
  refine ev_nil (hK1 _ ?_); clear hK1
  refine good_seq fun K2 hK2 => ?_
  refine good_region rfl ?_
  refine ev_q rfl (q_move (by conv => lhs; whnf) ?_)
  refine ev_k rfl (k_callX [(5, 900000)] (D_spec_l00From cs) rfl (rfl) (rfl) trivial ⟨⟨rfl, show (900000 : Nat) < 1000000 by decide⟩, trivial⟩ rfl rfl rfl ?_)
  refine ev_q rfl (q_assign (by conv => lhs; whnf) ?_)
  refine ev_nil (hK2 _ ?_); clear hK2
  refine good_seq fun K3 hK3 => ?_
  refine good_region rfl ?_
  refine ev_q rfl (q_move (by conv => lhs; whnf) ?_)
  refine ev_k rfl (k_callR [(1000000, 900000)] (D_spec_l00Src_pick cs _ _ _ hc hb (by omega) (by omega)) rfl (rfl) (rfl) ⟨rfl, trivial⟩ rfl (by rintro ⟨v4, a4, s4⟩ ⟨hx4_0, hx4_1⟩; exact ⟨⟨rfl, rfl, trivial⟩, rfl⟩) rfl rfl ?_)
  rintro ⟨v4, a4, s4⟩ ⟨hx4_0, hx4_1⟩
  refine ev_q rfl (q_int rfl rfl ?_)
  intro n5 hn5
  replace hn5 := in64 hn5 (by omega) (by omega)
  refine ev_q rfl (q_int rfl rfl ?_)
  intro n6 hn6
  replace hn6 := in64 hn6 (by omega) (by omega)
  refine ev_q rfl (q_assign (by conv => lhs; whnf) ?_)
  refine ev_nil (hK3 _ ?_); clear hK3
  refine good_seq fun K7 hK7 => ?_
  refine good_seq fun K8 hK8 => ?_
  refine good_region rfl ?_
  refine ev_q rfl (q_move (by conv => lhs; whnf) ?_)
  refine ev_k rfl (k_callR [(1000000, 900000)] (D_spec_l00Src_one cs _ _ _ hc hb (by omega) (by omega)) rfl (rfl) (rfl) ⟨rfl, trivial⟩ rfl (by rintro ⟨v9, a9, s9⟩ ⟨hx9_0, hx9_1⟩; exact ⟨⟨rfl, rfl, trivial⟩, rfl⟩) rfl rfl ?_)
  rintro ⟨v9, a9, s9⟩ ⟨hx9_0, hx9_1⟩
  cases v9
  · refine ev_nil (hK8 _ ?_); clear hK8
    refine good_condF rfl ?_
    refine good_skip (hK7 _ ?_); clear hK7
    refine good_seq fun K10 hK10 => ?_
    refine good_region rfl ?_
    refine ev_q rfl (q_move (by conv => lhs; whnf) ?_)
    refine ev_q rfl (q_move (by conv => lhs; whnf) ?_)
    refine ev_k rfl (k_callR [(1000000, 900000)] (D_spec_l02DrawDegrees cs _ _  hc hb (by omega)) rfl (rfl) (rfl) ⟨rfl, trivial⟩ rfl (by rintro ⟨v11, a11, s11⟩ ⟨hx11_0, hx11_1⟩; exact ⟨⟨rfl, rfl, trivial⟩, rfl⟩) rfl rfl ?_)
    rintro ⟨v11, a11, s11⟩ ⟨hx11_0, hx11_1⟩
    refine ev_q rfl (q_assign (by conv => lhs; whnf) ?_)
    refine ev_q rfl (q_assign (by conv => lhs; whnf) ?_)
    refine ev_nil (hK10 _ ?_); clear hK10
    refine good_ret ?_
    repeat (first | refine thenQ_ret ?_ | refine blockQ_ret ?_)
    refine ex_2 (v := n6) (a := v11) ?hF ?hR
    case hF =>
      refine fx_many rfl ?_
      refine fxs_tmp (by conv => lhs; whnf) ?_
      refine fxs_tmp (by conv => lhs; whnf) ?_
      refine fx_nil ?_
      exact ⟨_, .tup (.cons (conv_eq (by first | rfl | exact fI (by first | omega | grind) | (exfalso; first | omega | grind))) (.cons (conv_eq (by first | rfl | exact fI (by first | omega | grind) | (exfalso; first | omega | grind))) (.nil))), weakH_none _, refsIn_ok rfl⟩
    case hR =>
      exact ⟨by omega, by omega⟩
  · refine ev_nil (hK8 _ ?_); clear hK8
    refine good_condT rfl ?_
    refine good_region rfl ?_
    refine ev_q rfl (q_move (by conv => lhs; whnf) ?_)
    refine ev_k rfl (k_lit tE22 zA2 rfl rfl (by decide) (by decide) rfl rfl rfl ?_)
    refine ev_k rfl (k_callR [(1000000, 900000), (1000001, 15)] (D_spec_l00Src_among cs _ _ [(-200001), (-200000), 200000, 200001] hc hb (by omega) (by decide)) rfl (rfl) (rfl) ⟨rfl, ⟨rfl, trivial⟩⟩ rfl (by rintro ⟨v12, a12, s12⟩ ⟨hx12_0, hx12_1⟩; exact ⟨⟨rfl, rfl, ⟨rfl, ⟨rfl, rfl, by first | exact Nat.le_refl _ | (simp; done) | (simp; omega)⟩, trivial⟩⟩, rfl⟩) rfl rfl ?_)
    rintro ⟨v12, a12, s12⟩ ⟨hx12_0, hx12_1⟩
    simp only [List.mem_cons, List.not_mem_nil, or_false] at hx12_0
    refine ev_q rfl (q_assign (by conv => lhs; whnf) ?_)
    refine ev_nil (hK7 _ ?_); clear hK7
    refine good_seq fun K13 hK13 => ?_
    refine good_region rfl ?_
    refine ev_q rfl (q_move (by conv => lhs; whnf) ?_)
    refine ev_q rfl (q_move (by conv => lhs; whnf) ?_)
    refine ev_k rfl (k_callR [(1000000, 900000)] (D_spec_l02DrawDegrees cs _ _  hc hb (by omega)) rfl (rfl) (rfl) ⟨rfl, trivial⟩ rfl (by rintro ⟨v14, a14, s14⟩ ⟨hx14_0, hx14_1⟩; exact ⟨⟨rfl, rfl, trivial⟩, rfl⟩) rfl rfl ?_)
    rintro ⟨v14, a14, s14⟩ ⟨hx14_0, hx14_1⟩
    refine ev_q rfl (q_assign (by conv => lhs; whnf) ?_)
    refine ev_q rfl (q_assign (by conv => lhs; whnf) ?_)
    refine ev_nil (hK13 _ ?_); clear hK13
    refine good_ret ?_
    repeat (first | refine thenQ_ret ?_ | refine blockQ_ret ?_)
    refine ex_2 (v := v12) (a := v14) ?hF ?hR
    case hF =>
      refine fx_many rfl ?_
      refine fxs_tmp (by conv => lhs; whnf) ?_
      refine fxs_tmp (by conv => lhs; whnf) ?_
      refine fx_nil ?_
      exact ⟨_, .tup (.cons (conv_eq (by first | rfl | exact fI (by first | omega | grind) | (exfalso; first | omega | grind))) (.cons (conv_eq (by first | rfl | exact fI (by first | omega | grind) | (exfalso; first | omega | grind))) (.nil))), weakH_none _, refsIn_ok rfl⟩
    case hR =>
      exact ⟨by omega, by omega⟩

-- spec.DrawEnergyOf
set_option maxRecDepth 20000 in
set_option maxHeartbeats 2000000 in
theorem D_spec_DrawEnergyOf (cs : List Int) (hc : cs.length ≤ 17592186044416) (hb : byteL cs) : DenXR Try.prog 51 [] [.lst 1 (cs.map cb)] (τ := Int × Int) (fun (h, t) => (-1 ≤ h ∧ h ≤ 100000001) ∧ (-100000000000 ≤ t ∧ t ≤ 100000000000)) (fun (h, t) => []) (fun (h, t) => .tup [.s (.int .i64 h), .s (.int .i64 t)]) := by
  refine denXR_of_good Try.func51 (by decide) rfl (Nat.le_of_ble_eq_true rfl) (Nat.le_of_ble_eq_true rfl) rfl ?_
  refine good_seq fun K1 hK1 => ?_
  refine good_region rfl ?_
  refine ev_q rfl (q_assign (by conv => lhs; whnf) ?_)
  refine ev_q rfl (q_assign (by conv => lhs; whnf) ?_)
  refine ev_nil (hK1 _ ?_); clear hK1
  refine good_seq fun K2 hK2 => ?_
  refine good_region rfl ?_
  refine ev_q rfl (q_move (by conv => lhs; whnf) ?_)
  refine ev_k rfl (k_callX [(5, 900000)] (D_spec_l00From cs) rfl (rfl) (rfl) trivial ⟨⟨rfl, show (900000 : Nat) < 1000000 by decide⟩, trivial⟩ rfl rfl rfl ?_)
  refine ev_q rfl (q_assign (by conv => lhs; whnf) ?_)
  refine ev_nil (hK2 _ ?_); clear hK2
  refine good_seq fun K3 hK3 => ?_
  refine good_region rfl ?_
  refine ev_q rfl (q_move (by conv => lhs; whnf) ?_)
  refine ev_k rfl (k_callR [(1000000, 900000)] (D_spec_l00Src_pick cs _ _ _ hc hb (by omega) (by omega)) rfl (rfl) (rfl) ⟨rfl, trivial⟩ rfl (by rintro ⟨v4, a4, s4⟩ ⟨hx4_0, hx4_1⟩; exact ⟨⟨rfl, rfl, trivial⟩, rfl⟩) rfl rfl ?_)
  rintro ⟨v4, a4, s4⟩ ⟨hx4_0, hx4_1⟩
  refine ev_q rfl (q_int rfl rfl ?_)
  intro n5 hn5
  replace hn5 := in64 hn5 (by omega) (by omega)
  refine ev_q rfl (q_assign (by conv => lhs; whnf) ?_)
  refine ev_nil (hK3 _ ?_); clear hK3
  refine good_seq fun K6 hK6 => ?_
  refine good_seq fun K7 hK7 => ?_
  refine good_region rfl ?_
  refine ev_q rfl (q_move (by conv => lhs; whnf) ?_)
  refine ev_k rfl (k_callR [(1000000, 900000)] (D_spec_l00Src_one cs _ _ _ hc hb (by omega) (by omega)) rfl (rfl) (rfl) ⟨rfl, trivial⟩ rfl (by rintro ⟨v8, a8, s8⟩ ⟨hx8_0, hx8_1⟩; exact ⟨⟨rfl, rfl, trivial⟩, rfl⟩) rfl rfl ?_)
  rintro ⟨v8, a8, s8⟩ ⟨hx8_0, hx8_1⟩
  cases v8
  · refine ev_nil (hK7 _ ?_); clear hK7
    refine good_condF rfl ?_
    refine good_skip (hK6 _ ?_); clear hK6
    refine good_seq fun K9 hK9 => ?_
    refine good_region rfl ?_
    refine ev_q rfl (q_move (by conv => lhs; whnf) ?_)
    refine ev_q rfl (q_move (by conv => lhs; whnf) ?_)
    refine ev_k rfl (k_lit tE22 zA2 rfl rfl (by decide) (by decide) rfl rfl rfl ?_)
    refine ev_k rfl (k_callR [(1000000, 900000), (1000001, 18)] (D_spec_l00Src_among cs _ _ [0, 1, 15, 60, 1440, 1000000, 1000001, (-1)] hc hb (by omega) (by decide)) rfl (rfl) (rfl) ⟨rfl, ⟨rfl, trivial⟩⟩ rfl (by rintro ⟨v10, a10, s10⟩ ⟨hx10_0, hx10_1⟩; exact ⟨⟨rfl, rfl, ⟨rfl, ⟨rfl, rfl, by first | exact Nat.le_refl _ | (simp; done) | (simp; omega)⟩, trivial⟩⟩, rfl⟩) rfl rfl ?_)
    rintro ⟨v10, a10, s10⟩ ⟨hx10_0, hx10_1⟩
    simp only [List.mem_cons, List.not_mem_nil, or_false] at hx10_0
    refine ev_q rfl (q_assign (by conv => lhs; whnf) ?_)
    refine ev_q rfl (q_assign (by conv => lhs; whnf) ?_)
    refine ev_nil (hK9 _ ?_); clear hK9
    refine good_ret ?_
    repeat (first | refine thenQ_ret ?_ | refine blockQ_ret ?_)
    refine ex_2 (v := n5) (a := v10) ?hF ?hR
    case hF =>
      refine fx_many rfl ?_
      refine fxs_tmp (by conv => lhs; whnf) ?_
      refine fxs_tmp (by conv => lhs; whnf) ?_
      refine fx_nil ?_
      exact ⟨_, .tup (.cons (conv_eq (by first | rfl | exact fI (by first | omega | grind) | (exfalso; first | omega | grind))) (.cons (conv_eq (by first | rfl | exact fI (by first | omega | grind) | (exfalso; first | omega | grind))) (.nil))), weakH_none _, refsIn_ok rfl⟩
    case hR =>
      exact ⟨by omega, by omega⟩
  · refine ev_nil (hK7 _ ?_); clear hK7
    refine good_condT rfl ?_
    refine good_region rfl ?_
    refine ev_q rfl (q_move (by conv => lhs; whnf) ?_)
    refine ev_k rfl (k_lit tE22 zA2 rfl rfl (by decide) (by decide) rfl rfl rfl ?_)
    refine ev_k rfl (k_callR [(1000000, 900000), (1000001, 14)] (D_spec_l00Src_among cs _ _ [(-1), 100000000, 100000001] hc hb (by omega) (by decide)) rfl (rfl) (rfl) ⟨rfl, ⟨rfl, trivial⟩⟩ rfl (by rintro ⟨v11, a11, s11⟩ ⟨hx11_0, hx11_1⟩; exact ⟨⟨rfl, rfl, ⟨rfl, ⟨rfl, rfl, by first | exact Nat.le_refl _ | (simp; done) | (simp; omega)⟩, trivial⟩⟩, rfl⟩) rfl rfl ?_)
    rintro ⟨v11, a11, s11⟩ ⟨hx11_0, hx11_1⟩
    simp only [List.mem_cons, List.not_mem_nil, or_false] at hx11_0
    refine ev_q rfl (q_assign (by conv => lhs; whnf) ?_)
    refine ev_nil (hK6 _ ?_); clear hK6
    refine good_seq fun K12 hK12 => ?_
    refine good_region rfl ?_
    refine ev_q rfl (q_move (by conv => lhs; whnf) ?_)
    refine ev_q rfl (q_move (by conv => lhs; whnf) ?_)
    refine ev_k rfl (k_lit tE22 zA2 rfl rfl (by decide) (by decide) rfl rfl rfl ?_)
    refine ev_k rfl (k_callR [(1000000, 900000), (1000001, 18)] (D_spec_l00Src_among cs _ _ [0, 1, 15, 60, 1440, 1000000, 1000001, (-1)] hc hb (by omega) (by decide)) rfl (rfl) (rfl) ⟨rfl, ⟨rfl, trivial⟩⟩ rfl (by rintro ⟨v13, a13, s13⟩ ⟨hx13_0, hx13_1⟩; exact ⟨⟨rfl, rfl, ⟨rfl, ⟨rfl, rfl, by first | exact Nat.le_refl _ | (simp; done) | (simp; omega)⟩, trivial⟩⟩, rfl⟩) rfl rfl ?_)
    rintro ⟨v13, a13, s13⟩ ⟨hx13_0, hx13_1⟩
    simp only [List.mem_cons, List.not_mem_nil, or_false] at hx13_0
    refine ev_q rfl (q_assign (by conv => lhs; whnf) ?_)
    refine ev_q rfl (q_assign (by conv => lhs; whnf) ?_)
    refine ev_nil (hK12 _ ?_); clear hK12
    refine good_ret ?_
    repeat (first | refine thenQ_ret ?_ | refine blockQ_ret ?_)
    refine ex_2 (v := v11) (a := v13) ?hF ?hR
    case hF =>
      refine fx_many rfl ?_
      refine fxs_tmp (by conv => lhs; whnf) ?_
      refine fxs_tmp (by conv => lhs; whnf) ?_
      refine fx_nil ?_
      exact ⟨_, .tup (.cons (conv_eq (by first | rfl | exact fI (by first | omega | grind) | (exfalso; first | omega | grind))) (.cons (conv_eq (by first | rfl | exact fI (by first | omega | grind) | (exfalso; first | omega | grind))) (.nil))), weakH_none _, refsIn_ok rfl⟩
    case hR =>
      exact ⟨by omega, by omega⟩

-- laws.b10Long
set_option maxRecDepth 20000 in
set_option maxHeartbeats 2000000 in
theorem D_laws_b10Long (cs : List Int)  : Den Try.prog 40 [.lst 1 (cs.map cb)] (.s (.bool (decide ((cs.length : Int) > 1048576)))) := by
  refine den_of_good Try.func40 (by decide) rfl (Nat.le_of_ble_eq_true rfl) (Nat.le_of_ble_eq_true rfl) ?_
  refine good_seq fun K1 hK1 => ?_
  refine good_region rfl ?_
  refine ev_q rfl (q_assign (by conv => lhs; whnf) ?_)
  refine ev_nil (hK1 _ ?_); clear hK1
  refine good_seq fun K2 hK2 => ?_
  refine good_region rfl ?_
  refine ev_q rfl (q_move (by conv => lhs; whnf) ?_)
  refine ev_q rfl (q_len tEs59 rfl ?_)
  intro n3 hn3
  try simp only [List.length_map] at hn3
  refine ev_q rfl (q_int rfl rfl ?_)
  intro b4 hb4; cases b4
  · replace hb4 := dF hb4
    refine ev_q rfl (q_assign (by conv => lhs; whnf) ?_)
    refine ev_nil (hK2 _ ?_); clear hK2
    refine good_ret ?_
    repeat (first | refine thenQ_ret ?_ | refine blockQ_ret ?_)
    refine ret_tmp (st := _) rfl (by conv => lhs; whnf) rfl ?_
    first | exact fT (by omega) | exact fF (by omega)
  · replace hb4 := dT hb4
    refine ev_q rfl (q_assign (by conv => lhs; whnf) ?_)
    refine ev_nil (hK2 _ ?_); clear hK2
    refine good_ret ?_
    repeat (first | refine thenQ_ret ?_ | refine blockQ_ret ?_)
    refine ret_tmp (st := _) rfl (by conv => lhs; whnf) rfl ?_
    first | exact fT (by omega) | exact fF (by omega)

-- laws.b10Abs
set_option maxRecDepth 20000 in
set_option maxHeartbeats 2000000 in
theorem D_laws_b10Abs (n : Int) (h : -1000000000000000 ≤ n ∧ n ≤ 1000000000000000) : Den Try.prog 53 [.s (.int .i64 n)] (.s (.int .i64 ((n.natAbs : Int)))) := by
  refine den_of_good Try.func53 (by decide) rfl (Nat.le_of_ble_eq_true rfl) (Nat.le_of_ble_eq_true rfl) ?_
  refine good_seq fun K1 hK1 => ?_
  refine good_region rfl ?_
  refine ev_q rfl (q_assign (by conv => lhs; whnf) ?_)
  refine ev_nil (hK1 _ ?_); clear hK1
  refine good_seq fun K2 hK2 => ?_
  refine good_seq fun K3 hK3 => ?_
  refine good_region rfl ?_
  refine ev_q rfl (q_move (by conv => lhs; whnf) ?_)
  refine ev_q rfl (q_int rfl rfl ?_)
  intro b4 hb4; cases b4
  · replace hb4 := dF hb4
    refine ev_nil (hK3 _ ?_); clear hK3
    refine good_condF rfl ?_
    refine good_skip (hK2 _ ?_); clear hK2
    refine good_seq fun K5 hK5 => ?_
    refine good_region rfl ?_
    refine ev_q rfl (q_move (by conv => lhs; whnf) ?_)
    refine ev_q rfl (q_assign (by conv => lhs; whnf) ?_)
    refine ev_nil (hK5 _ ?_); clear hK5
    refine good_ret ?_
    repeat (first | refine thenQ_ret ?_ | refine blockQ_ret ?_)
    refine ret_tmp (st := _) rfl (by conv => lhs; whnf) rfl ?_
    exact fI (by omega)
  · replace hb4 := dT hb4
    refine ev_nil (hK3 _ ?_); clear hK3
    refine good_condT rfl ?_
    refine good_seq fun K6 hK6 => ?_
    refine good_region rfl ?_
    refine ev_q rfl (q_move (by conv => lhs; whnf) ?_)
    refine ev_q rfl (q_neg rfl ?_)
    intro n7 hn7
    replace hn7 := neg64 hn7 (by omega) (by omega)
    refine ev_q rfl (q_assign (by conv => lhs; whnf) ?_)
    refine ev_nil (hK6 _ ?_); clear hK6
    refine good_ret ?_
    repeat (first | refine thenQ_ret ?_ | refine blockQ_ret ?_)
    refine ret_tmp (st := _) rfl (by conv => lhs; whnf) rfl ?_
    clear hK2
    exact fI (by omega)

end Go.Proofs.Ytpoppoglnjoomaa.DFnMixes
