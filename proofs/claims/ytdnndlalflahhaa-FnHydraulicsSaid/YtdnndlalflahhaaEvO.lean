/- Small laws for the endings and the branches of a walk. -/
import Derived.Test.YtdnndlalflahhaaEvM
import Derived.Test.YtdnndlalflahhaaEvQ
import Derived.Laws.BitsLemmas
import Derived.Laws.Strings
set_option linter.unusedVariables false
set_option linter.unusedSimpArgs false
namespace Go.Proofs.Ytdnndlalflahhaa.Ev
open Go Go.RowKit
theorem eqT {a b : Int} (h : true = (a == b)) : a = b := by simpa using h.symm
theorem eqF {a b : Int} (h : false = (a == b)) : ¬ a = b := by simpa using h.symm
theorem neT {a b : Int} (h : true = (a != b)) : ¬ a = b := by simpa using h.symm
theorem neF {a b : Int} (h : false = (a != b)) : a = b := by simpa using h.symm
theorem dT {p : Prop} [Decidable p] (h : true = decide p) : p := of_decide_eq_true h.symm
theorem dF {p : Prop} [Decidable p] (h : false = decide p) : ¬ p := of_decide_eq_false h.symm
theorem bytes_ext {x y : ByteArray} (h : x.toList = y.toList) : x = y := by
  rw [ByteArray.toList_eq, ByteArray.toList_eq] at h
  cases x; cases y; simp_all
theorem seT {x y : ByteArray} (h : true = (x.toList == y.toList)) : x = y := bytes_ext (by simpa using h.symm)
theorem seF {x y : ByteArray} (h : false = (x.toList == y.toList)) : ¬ x = y := by
  intro e; subst e; simp at h
theorem snT {x y : ByteArray} (h : true = !(x.toList == y.toList)) : ¬ x = y := by
  intro e; subst e; simp at h
theorem snF {x y : ByteArray} (h : false = !(x.toList == y.toList)) : x = y := bytes_ext (by simpa using h.symm)
theorem size0 {x : ByteArray} (h : x.size = 0) : x = ⟨#[]⟩ := by
  cases x with | mk d => cases d with | mk l => cases l with
    | nil => rfl
    | cons a l => simp [ByteArray.size] at h
theorem fT {p : Prop} [Decidable p] (h : p) : AV.s (.bool true) = .s (.bool (decide p)) := by rw [decide_eq_true h]
theorem fF {p : Prop} [Decidable p] (h : ¬ p) : AV.s (.bool false) = .s (.bool (decide p)) := by rw [decide_eq_false h]
theorem fT' {p : Prop} [Decidable p] (h : p) : AV.s (.bool (decide p)) = .s (.bool true) := by rw [decide_eq_true h]
theorem fD {p q : Prop} [Decidable p] [Decidable q] (h : p ↔ q) : AV.s (.bool (decide p)) = .s (.bool (decide q)) := by rw [decide_eq_decide.2 h]
theorem fI {k : IntKind} {a b : Int} (h : a = b) : AV.s (.int k a) = .s (.int k b) := by rw [h]
theorem fTup1 {a b : AV} {as bs : List AV} (h : a = b) (t : AV.tup as = .tup bs) : AV.tup (a :: as) = .tup (b :: bs) := by
  cases t; rw [h]
theorem fAgg1 {a b : AV} {as bs : List AV} (h : a = b) (t : AV.agg as = .agg bs) : AV.agg (a :: as) = .agg (b :: bs) := by
  cases t; rw [h]
theorem in64 {n m : Int} (h : n = IntKind.i64.wrap m) (h0 : -9223372036854775808 ≤ m) (h1 : m ≤ 9223372036854775807) : n = m := by
  rw [IntKind.wrap_i64] at h; omega
theorem neg64 {n m : Int} (h : n = IntKind.i64.wrap (0 - m)) (h0 : -9223372036854775807 ≤ m) (h1 : m ≤ 9223372036854775807) : n = -m := by
  have := in64 h (by omega) (by omega); omega
theorem divB {x y : Int} (h : 0 ≤ x) (h0 : 0 < y) : 0 ≤ x / y ∧ x / y ≤ x :=
  ⟨Int.ediv_nonneg h (by omega), Int.ediv_le_self _ h⟩
theorem tdiv_le {a b : Int} : (a.tdiv b).natAbs ≤ a.natAbs := by
  rw [Int.natAbs_tdiv]; exact Nat.div_le_self _ _
theorem tmod_lt' {a b : Int} (h : b ≠ 0) : (a.tmod b).natAbs < b.natAbs := by
  rw [Int.natAbs_tmod]; exact Nat.mod_lt _ (by omega)
theorem quoT {n a b : Int} (h : n = IntKind.i64.wrap (a.tdiv b)) (h0 : -9223372036854775807 ≤ a) (h1 : a ≤ 9223372036854775807) : n = a.tdiv b := by
  have := tdiv_le (a := a) (b := b)
  exact in64 h (by omega) (by omega)
theorem quoE {n a b : Int} (h : n = IntKind.i64.wrap (a.tdiv b)) (h0 : 0 ≤ a) (h1 : a ≤ 9223372036854775807) : n = a / b := by
  rw [quoT h (by omega) h1, Int.tdiv_eq_ediv_of_nonneg h0]
theorem remE {n a b : Int} (h : n = a.tmod b) (h0 : 0 ≤ a) : n = a % b := by
  rw [h, Int.tmod_eq_emod_of_nonneg h0]
theorem mulB {a b A B : Int} (ha : 0 ≤ a) (hA : a ≤ A) (hb : 0 ≤ b) (hB : b ≤ B) : 0 ≤ a * b ∧ a * b ≤ A * B :=
  ⟨Int.mul_nonneg ha hb, Int.mul_le_mul hA hB hb (by omega)⟩
theorem mulS {a b A B : Int} (h1 : -A ≤ a) (h2 : a ≤ A) (h3 : -B ≤ b) (h4 : b ≤ B) : -(A * B) ≤ a * b ∧ a * b ≤ A * B := by
  have h : (a * b).natAbs ≤ A.natAbs * B.natAbs := by
    rw [Int.natAbs_mul]; exact Nat.mul_le_mul (by omega) (by omega)
  have e : ((A.natAbs * B.natAbs : Nat) : Int) = A * B := by
    rw [Int.natCast_mul, Int.natAbs_of_nonneg (by omega), Int.natAbs_of_nonneg (by omega)]
  omega
theorem ex_map {α : Type} {es : List AV} {f : α → AV} {p : α → Prop} (h : ∀ e ∈ es, ∃ a, e = f a ∧ p a) : ∃ xs : List α, es = xs.map f ∧ ∀ x ∈ xs, p x := by
  induction es with
  | nil => exact ⟨[], rfl, by intro x hx; cases hx⟩
  | cons e es ih =>
    obtain ⟨xs, rfl, hx⟩ := ih (fun e he => h e (List.mem_cons_of_mem _ he))
    obtain ⟨a, rfl, ha⟩ := h e (List.mem_cons_self ..)
    exact ⟨a :: xs, rfl, by intro x hm; cases hm with | head => exact ha | tail _ hm => exact hx x hm⟩
theorem wf64 {n : Int} (h : (Lit.int .i64 n).wf = true) : -9223372036854775808 ≤ n ∧ n ≤ 9223372036854775807 := by
  simp [Lit.wf, IntKind.min, IntKind.max, IntKind.signed, IntKind.bits] at h
  omega
section
variable {P : Program} {st : St} {K : AV → Prop}
theorem q_loadI {t : TypeId} {x : Operand} {h o ty : Nat} {cells : List AV} {c : AV} (ht : tAgg P t = some none) (hx : st.ev x = .ptr h o) (hH : st.H h = some (.box ty cells)) (hc : cells[o]? = some c) (hk : K c) : OpQ P st (.load t x) K := by
  obtain ⟨hl, he⟩ := List.getElem?_eq_some_iff.1 hc
  refine q_load (cs := cells.drop (o + 1)) ht ?_ hk
  rw [hx]
  simp only [cellsOf, hH]
  rw [List.drop_eq_getElem_cons hl, he]
theorem q_extractB {x : Operand} {i : Nat} {cs : List AV} {b0 : Bool} (hx : st.ev x = .tup cs) (hv : cs[i]? = some (.s (.bool b0))) (h : ∀ b, b = b0 → K (.s (.bool b))) : OpQ P st (.extract x i) K :=
  q_extract hx hv (h _ rfl)
theorem q_extractI {x : Operand} {i : Nat} {cs : List AV} {k : IntKind} {n0 : Int} (hx : st.ev x = .tup cs) (hv : cs[i]? = some (.s (.int k n0))) (h : ∀ n, n = n0 → K (.s (.int k n))) : OpQ P st (.extract x i) K :=
  q_extract hx hv (h _ rfl)
end
/-! Loops over a list, and rows that are filled one after the other -/
theorem weakH_row {H H' : Nat → Option OB} {k ty sz : Nat} {es : List AV} (h : H k = some (.row ty sz es)) (hh : WeakH H H') : WeakH H (upd H' k (some (.row ty sz es))) := by
  have hs : ∀ c, RefsIn H' c → RefsIn (upd H' k (some (.row ty sz es))) c := by
    intro c hc j hj
    by_cases e : j = k
    · subst e; rw [upd_same]; rfl
    · rw [upd_ne _ _ e]; exact hc j hj
  intro j ob hj
  by_cases e : j = k
  · subst e
    rw [upd_same] at hj
    cases hj
    exact ⟨h, fun _ _ e => by cases e⟩
  · rw [upd_ne _ _ e] at hj
    exact ⟨(hh j ob hj).1, fun ty cs e c hc => hs c ((hh j ob hj).2 ty cs e c hc)⟩
theorem weakH_box {H H' : Nat → Option OB} {k ty : Nat} {cs : List AV} (h : H k = some (.box ty cs)) (hr : (cs.all fun c => (refs c).isEmpty) = true) (hh : WeakH H H') : WeakH H (upd H' k (some (.box ty cs))) := by
  have hs : ∀ c, RefsIn H' c → RefsIn (upd H' k (some (.box ty cs))) c := by
    intro c hc j hj
    by_cases e : j = k
    · subst e; rw [upd_same]; rfl
    · rw [upd_ne _ _ e]; exact hc j hj
  intro j ob hj
  by_cases e : j = k
  · subst e
    rw [upd_same] at hj
    cases hj
    refine ⟨h, fun _ _ e c hc => ?_⟩
    cases e
    have := List.all_eq_true.1 hr c hc
    intro m hm
    rw [List.isEmpty_iff.1 this] at hm; cases hm
  · rw [upd_ne _ _ e] at hj
    exact ⟨(hh j ob hj).1, fun ty cs e c hc => hs c ((hh j ob hj).2 ty cs e c hc)⟩
theorem weakH_boxR {H H' : Nat → Option OB} {k ty : Nat} {cs : List AV} (h : H k = some (.box ty cs)) (hr : (cs.all fun c => (refs c).all fun m => (H' m).isSome) = true) (hh : WeakH H H') : WeakH H (upd H' k (some (.box ty cs))) := by
  have hs : ∀ c, RefsIn H' c → RefsIn (upd H' k (some (.box ty cs))) c := by
    intro c hc j hj
    by_cases e : j = k
    · subst e; rw [upd_same]; rfl
    · rw [upd_ne _ _ e]; exact hc j hj
  intro j ob hj
  by_cases e : j = k
  · subst e
    rw [upd_same] at hj
    cases hj
    refine ⟨h, fun _ _ e c hc => ?_⟩
    cases e
    exact hs c fun m hm => List.all_eq_true.1 (List.all_eq_true.1 hr c hc) m hm
  · rw [upd_ne _ _ e] at hj
    exact ⟨(hh j ob hj).1, fun ty cs e c hc => hs c ((hh j ob hj).2 ty cs e c hc)⟩
theorem rowEq {ty sz : Nat} {a b : List AV} (h : a = b) : some (OB.row ty sz a) = some (OB.row ty sz b) := by rw [h]
theorem boxEq {ty : Nat} {a b : List AV} (h : a = b) : some (OB.box ty a) = some (OB.box ty b) := by rw [h]
theorem lstEq {sz : Nat} {a b : List AV} (h : a = b) : AV.lst sz a = .lst sz b := by rw [h]
theorem ownEq {k a b : Nat} (h : a = b) : AV.own k a = .own k b := by rw [h]
theorem boolEq {b c : Bool} (h : b = c) : AV.s (.bool b) = .s (.bool c) := by rw [h]
theorem strEq {b c : ByteArray} (h : b = c) : AV.s (.string b) = .s (.string c) := by rw [h]
theorem getL {α : Type} {xs : List α} {n : Int} (h0 : 0 ≤ n) (h1 : n < xs.length) : ∃ p, xs[n.toNat]? = some p :=
  ⟨_, List.getElem?_eq_getElem (by omega)⟩
theorem map_get {α : Type} {f : α → AV} {xs : List α} {i : Nat} {p : α} (h : xs[i]? = some p) : (xs.map f)[i]? = some (f p) := by simp [h]
def fillC {α : Type} (f : α → AV) (z : AV) (xs : List α) (i : Nat) : List AV := (xs.map f).take i ++ List.replicate (xs.length - i) z
theorem fill0 {α : Type} {f : α → AV} {z : AV} {xs : List α} {n : Nat} (h : n = xs.length) : List.replicate n z = fillC f z xs 0 := by simp [fillC, h]
theorem fillG {α : Type} {f : α → AV} {z : AV} {xs : List α} {i : Nat} (h : i < xs.length) : (fillC f z xs i)[i]? = some z := by
  unfold fillC
  rw [List.getElem?_append_right (by simp; omega)]
  simp [List.getElem?_replicate]; omega
theorem fillS {α : Type} {f : α → AV} {z v : AV} {xs : List α} {i : Nat} {p : α} (h : xs[i]? = some p) (hv : v = f p) : (fillC f z xs i).set i v = fillC f z xs (i + 1) := by
  obtain ⟨hl, hp⟩ := List.getElem?_eq_some_iff.1 h
  subst hv
  unfold fillC
  have e1 : xs.length - i = (xs.length - (i + 1)) + 1 := by omega
  rw [List.set_append, if_neg (by simp; omega), e1, List.replicate_succ]
  have e2 : i - ((xs.map f).take i).length = 0 := by simp; omega
  rw [e2, List.set_cons_zero, List.take_add_one, List.getElem?_map, h]
  simp
theorem fillE {α : Type} {f : α → AV} {z : AV} {xs : List α} {i n : Nat} (hi : xs.length ≤ i) (hn : n = xs.length) : (fillC f z xs i).take n = xs.map f := by
  subst hn
  unfold fillC
  rw [List.take_of_length_le (by simp; omega)]
  have : xs.length - i = 0 := by omega
  rw [this, List.replicate_zero, List.append_nil, List.take_of_length_le (by simpa using hi)]
def drP (a b : Int) : Int := if a < 0 then -((b - 2 * a) / (2 * b)) else (2 * a + b) / (2 * b)
def dr (a b : Int) : Int := if b < 0 then drP (-a) (-b) else drP a b
theorem div_uniq {a b q : Int} (hb : 0 < b) (h0 : b * q ≤ a) (h1 : a < b * q + b) : a / b = q := by
  have e := Int.mul_ediv_add_emod a b
  have m0 := Int.emod_nonneg a (by omega : b ≠ 0)
  have m1 := Int.emod_lt_of_pos a hb
  have : b * (a / b) < b * (q + 1) := by rw [Int.mul_add]; omega
  have l1 := Int.lt_of_mul_lt_mul_left this (by omega)
  have : b * q < b * (a / b + 1) := by rw [Int.mul_add]; omega
  have l2 := Int.lt_of_mul_lt_mul_left this (by omega)
  omega
theorem dr_pos {a b : Int} (ha : 0 ≤ a) (hb : 0 < b) : drP a b = if a % b ≥ b - a % b then a / b + 1 else a / b := by
  have e := Int.mul_ediv_add_emod a b
  have m0 := Int.emod_nonneg a (by omega : b ≠ 0)
  have m1 := Int.emod_lt_of_pos a hb
  unfold drP
  rw [if_neg (by omega)]
  have e2 : ∀ q : Int, 2 * b * q = 2 * (b * q) := fun q => Int.mul_assoc ..
  split
  · apply div_uniq (by omega)
    · rw [e2, Int.mul_add]; omega
    · rw [e2, Int.mul_add]; omega
  · apply div_uniq (by omega)
    · rw [e2]; omega
    · rw [e2]; omega
theorem drP_neg {a b : Int} (ha : a < 0) : drP a b = - drP (-a) b := by
  unfold drP
  rw [if_pos ha, if_neg (by omega)]
  congr 2; omega
theorem dr_eq {a b q r : Int} (hb : b ≠ 0) (hq : q = a.tdiv b) (hr : r = (a.tmod b).natAbs) :
    dr a b = if r ≥ b.natAbs - r then (if (decide (a < 0)) = (decide (b < 0)) then q + 1 else q - 1) else q := by
  subst hq hr
  have key : ∀ a b : Int, 0 ≤ a → 0 < b → drP a b = if (a.tmod b).natAbs ≥ (b.natAbs : Int) - (a.tmod b).natAbs then a.tdiv b + 1 else a.tdiv b := by
    intro a b ha hb
    have m0 := Int.emod_nonneg a (by omega : b ≠ 0)
    rw [Int.tmod_eq_emod_of_nonneg ha, Int.tdiv_eq_ediv_of_nonneg ha, dr_pos ha hb]
    congr 1
    simp only [eq_iff_iff]
    omega
  unfold dr
  by_cases h1 : b < 0
  · rw [if_pos h1]
    by_cases h2 : a ≤ 0
    · rw [key _ _ (by omega) (by omega)]
      simp only [Int.neg_tmod, Int.tmod_neg, Int.neg_tdiv, Int.tdiv_neg, Int.natAbs_neg, Int.neg_neg]
      by_cases h3 : a < 0
      · rw [if_pos (show decide (a < 0) = decide (b < 0) by simp [h1, h3])]
      · have : a = 0 := by omega
        subst this
        simp
        omega
    · rw [drP_neg (by omega), key _ _ (by omega) (by omega)]
      simp only [Int.neg_tmod, Int.tmod_neg, Int.neg_tdiv, Int.tdiv_neg, Int.natAbs_neg, Int.neg_neg]
      rw [if_neg (show ¬ decide (a < 0) = decide (b < 0) by simp [h1]; omega)]
      split <;> omega
  · rw [if_neg h1]
    by_cases h2 : 0 ≤ a
    · rw [key _ _ (by omega) (by omega)]
      rw [if_pos (show decide (a < 0) = decide (b < 0) by simp; omega)]
    · rw [drP_neg (by omega), key _ _ (by omega) (by omega)]
      simp only [Int.neg_tmod, Int.neg_tdiv, Int.natAbs_neg]
      rw [if_neg (show ¬ decide (a < 0) = decide (b < 0) by simp; omega)]
      split <;> omega
theorem dr_bound {a b : Int} (hb : b ≠ 0) : (dr a b).natAbs ≤ a.natAbs + 1 := by
  have t := tdiv_le (a := a) (b := b)
  rw [dr_eq hb rfl rfl]
  split
  · split <;> omega
  · omega
theorem conv_eq {H : Nat → Option OB} {v r : AV} (h : v = r) : Conv H H v r := by subst h; exact .same
theorem refsIn_ok {H : Nat → Option OB} {r : AV} (h : ((refs r).all fun k => (H k).isSome) = true) : RefsIn H r := fun k hk => List.all_eq_true.1 h k hk
theorem conv_nil {H : Nat → Option OB} {d n ty sz : Nat} (h : H d = none) (hd : d < 1000000) (hn : n = 0) : Conv H (upd H d (some (.row ty sz []))) .nil (.own d n) := by subst hn; exact .nil h hd
theorem takeMap {α : Type} {f : α → AV} {xs : List α} : (xs.map f).take xs.length = xs.map f := List.take_of_length_le (by simp)
theorem takeLen {es : List AV} {n : Nat} (h : es.length ≤ n) : es.take n = es := List.take_of_length_le h
theorem den_of_denX {P : Program} {f : Nat} {args : List AV} {post : List (Nat × OB)} {r r' : AV} (h : DenX P f [] args post r) (hr : roOf (hof post) 4 r = some r') : Den P f args r' := by
  refine ⟨h.1, fun w ok vs hglb hvs => ?_⟩
  refine (h.2 w ok (fun _ => undef) vs (hglb.mono (fun b hb _ => ⟨hb, by intro h hs; cases hs⟩) (fun _ _ _ => rfl)) ⟨(by intro h k b _ h1; cases h1), (by intro h ob hob; cases hob)⟩ (by intro h b hs; cases hs) (.of_reps (hvs.mono (fun b hb _ => ⟨hb, by intro h hs; cases hs⟩) (fun _ _ _ => rfl)))).mono fun e w' hp => ?_
  obtain ⟨_, v, φ', _, he, hb, _, hblk, hh, hr2⟩ := hp
  refine ⟨v, he, hb.below (by rintro k ⟨h, hs, _⟩; cases hs), roOf_sound (fun _ _ h => h) hh.own (fun b hb => hb.1) (fun k b hs hb => ?_) 4 hr2 hr⟩
  rcases hblk k b hs hb with h | ⟨j, hj, -⟩
  · exact .inr h
  · cases hj
def DenR (P : Program) (f : Nat) (args : List AV) {τ : Type} (R : τ → Prop) (r : τ → AV) : Prop := DenXR P f [] args R (fun _ => []) r
theorem denR_of_denXR {P : Program} {f : Nat} {args : List AV} {τ : Type} {R : τ → Prop} {post : τ → List (Nat × OB)} {r r' : τ → AV} (h : DenXR P f [] args R post r) (hr : ∀ x, R x → roOf (hof (post x)) 4 (r x) = some (r' x)) : DenR P f args R r' := by
  refine ⟨h.1, fun w ok φ vs hglb hh hold hvs => ?_⟩
  refine (h.2 w ok φ vs hglb hh hold hvs).mono fun e w' hp => ?_
  obtain ⟨x, v, φ', hx, he, hb, _, hblk, hh2, hr2⟩ := hp
  refine ⟨x, v, φ', hx, he, hb, (by intro h hs; cases hs), (by intro h b hs; cases hs), ⟨(by intro h k b _ hs; cases hs), (by intro h ob hob; cases hob)⟩, ?_⟩
  refine RepV.of (roOf_sound (fun _ _ h => h) hh2.own (fun b hb => ⟨hb.1, by intro h hs; cases hs⟩) (fun k b hs hb => ?_) 4 hr2 (hr x hx))
  rcases hblk k b hs hb with h | ⟨j, hj, -⟩
  · exact ⟨.inr h, by intro h hs; cases hs⟩
  · cases hj
theorem ex_1 {α : Type} {R F : α → Prop} {v : α} (hF : F v) (hR : R v) : ∃ x, R x ∧ F x := ⟨_, hR, hF⟩
theorem ex_2 {α β : Type} {R F : α × β → Prop} {v : α} {a : β} (hF : F (v, a)) (hR : R (v, a)) : ∃ x, R x ∧ F x := ⟨_, hR, hF⟩
theorem ex_3 {α β γ : Type} {R F : α × β × γ → Prop} {v : α} {a : β} {b : γ} (hF : F (v, a, b)) (hR : R (v, a, b)) : ∃ x, R x ∧ F x := ⟨_, hR, hF⟩
theorem ex_4 {α β γ δ : Type} {R F : α × β × γ × δ → Prop} {v : α} {a : β} {b : γ} {c : δ} (hF : F (v, a, b, c)) (hR : R (v, a, b, c)) : ∃ x, R x ∧ F x := ⟨_, hR, hF⟩
theorem ex_5 {α β γ δ ε : Type} {R F : α × β × γ × δ × ε → Prop} {v : α} {a : β} {b : γ} {c : δ} {d : ε} (hF : F (v, a, b, c, d)) (hR : R (v, a, b, c, d)) : ∃ x, R x ∧ F x := ⟨_, hR, hF⟩
/-! ### One name for another one, everywhere -/
def rnm (k d : Nat) : Nat → Nat := fun i => if i = k then d else i
def St.renm (st : St) (k d : Nat) : St := { env := fun t => ren (rnm k d) (st.env t), H := fun h => if h = d then (st.H k).map (renO (rnm k d)) else if h = k then none else (st.H h).map (renO (rnm k d)) }
theorem sub_ren {N : Nat} {st : St} (k d : Nat) (hk : k < 1000000) (hd : st.H d = none) (hdn : d < 1000000) (hkd : (k == d) = false) : Sub N st (st.renm k d) := by
  intro P C hC a w ⟨φ, g⟩
  have hkd' : ¬ k = d := by simpa using hkd
  let φ' : Nat → Value := fun h => if h = d then φ k else φ h
  have hφ : ∀ j, (st.H j).isSome = true → φ' (rnm k d j) = φ j := by
    intro j hj
    by_cases c : j = k
    · subst c; simp [φ', rnm]
    · have hjd : ¬ j = d := fun e => by rw [e, hd] at hj; cases hj
      simp [φ', rnm, c, hjd]
  have hH : ∀ j ob, st.H j = some ob → (st.renm k d).H (rnm k d j) = some (renO (rnm k d) ob) := by
    intro j ob hj
    by_cases c : j = k
    · subst c; simp [St.renm, rnm, hj]
    · have hjd : ¬ j = d := fun e => by rw [e, hd] at hj; cases hj
      have e : rnm k d j = j := if_neg c
      rw [e]
      show (if j = d then _ else if j = k then none else _) = _
      rw [if_neg hjd, if_neg c, hj]; rfl
  -- what stands there comes from somewhere
  have hB : ∀ h ob', (st.renm k d).H h = some ob' → ∃ j ob, st.H j = some ob ∧ rnm k d j = h ∧ ob' = renO (rnm k d) ob := by
    intro h ob' hh
    have hh' : (if h = d then (st.H k).map (renO (rnm k d)) else if h = k then none else (st.H h).map (renO (rnm k d))) = some ob' := hh
    by_cases c : h = d
    · rw [if_pos c] at hh'
      obtain ⟨ob, h1, h2⟩ := Option.map_eq_some_iff.1 hh'
      exact ⟨k, ob, h1, by simp [rnm, c], h2.symm⟩
    · rw [if_neg c] at hh'
      by_cases e : h = k
      · rw [if_pos e] at hh'; cases hh'
      · rw [if_neg e] at hh'
        obtain ⟨ob, h1, h2⟩ := Option.map_eq_some_iff.1 hh'
        exact ⟨h, ob, h1, if_neg e, h2.symm⟩
  have hB2 : ∀ h, ((st.renm k d).H h).isSome = true → ∃ j, (st.H j).isSome = true ∧ rnm k d j = h ∧ φ' h = φ j := by
    intro h hh
    obtain ⟨ob', e⟩ := Option.isSome_iff_exists.1 hh
    obtain ⟨j, ob, h1, h2, h3⟩ := hB h ob' e
    have hj : (st.H j).isSome = true := by rw [h1]; rfl
    exact ⟨j, hj, h2, by rw [← h2]; exact hφ j hj⟩
  have hok : ∀ b, okG C φ st.H b → okG C φ' (st.renm k d).H b := fun b hb => ⟨hb.1, fun h hh => by
    obtain ⟨j, hj, _, e⟩ := hB2 h hh
    rw [e]; exact hb.2 j hj⟩
  refine ⟨φ', g.size, g.defers, g.below, ?_, ?_, ?_, ?_, ?_⟩
  · intro h b hh hb
    obtain ⟨j, hj, _, e⟩ := hB2 h hh
    rw [e] at hb; exact g.mine j b hj hb
  · intro h hn hh
    obtain ⟨j, hj, e1, e⟩ := hB2 h hh
    have hjk : ¬ j = k := fun c => by
      subst c
      have : rnm j d j = d := if_pos rfl
      rw [this] at e1; omega
    have : rnm k d j = j := if_neg hjk
    rw [this] at e1
    subst e1
    rw [e]; exact g.keep j hn hj
  · intro h i b hne h1 h2 hb
    obtain ⟨j, hj, e1, e⟩ := hB2 h h1
    obtain ⟨l, hl, e2, e'⟩ := hB2 i h2
    rw [e] at hb
    rw [e']
    exact g.disj j l b (fun c => hne (by rw [← e1, ← e2, c])) hj hl hb
  · intro h ob' hob
    obtain ⟨j, ob, h1, h2, rfl⟩ := hB h ob' hob
    have hj : (st.H j).isSome = true := by rw [h1]; rfl
    have ho := g.own j ob h1
    have e : φ' h = φ j := by rw [← h2]; exact hφ j hj
    rw [e]
    cases ob with
    | row ty sz es =>
      obtain ⟨xs, r1, r2, r3⟩ := ho
      exact ⟨xs, r1, Reps.mono (fun b hb _ => hok b hb) (fun _ _ _ => rfl) r2, r3⟩
    | nest ty tyI szI rows => exact nest_stay ho (fun _ _ => rfl) (fun r _ xs h => h.mono (fun b hb _ => hok b hb) (fun _ _ _ => rfl))
    | box ty cs =>
      obtain ⟨gb, arr, r1, r3, r4, r5⟩ := ho
      refine ⟨gb, arr, r1, r3, r4, ?_⟩
      rw [rens_map]
      refine ⟨by rw [List.length_map]; exact r5.1, fun i x v hx hv => ?_⟩
      rw [List.getElem?_map] at hx
      obtain ⟨x0, hx0, rfl⟩ := Option.map_eq_some_iff.1 hx
      exact ren_rep hH hφ (.inl hok) (r5.2 i x0 v hx0 hv)
  · intro t
    exact ren_rep hH hφ (.inl hok) (g.rep t)
section
variable {P : Program} {ops : Array Oper} {Q : St → Prop} {st : St} {rest : List Oper} {x : Operand} {v : AV} {d : Option Tmp} {t : TypeId} {pos : String} {aft : Array Edge} {gd : Option (Nat × Bool)}
/-! short names -/
theorem em (hg : wantedA ops { dst := d, op := .move x, type := t, pos := pos, after := aft, guard := gd } st = some true) (hx : st.ev x = v) (h : EVops P ops Q rest (st.put d v)) : EVops P ops Q ({ dst := d, op := .move x, type := t, pos := pos, after := aft, guard := gd } :: rest) st := ev_q hg (q_move hx h)
theorem ea (hg : wantedA ops { dst := d, op := .assign x, type := t, pos := pos, after := aft, guard := gd } st = some true) (hx : st.ev x = v) (h : EVops P ops Q rest (st.put d v)) : EVops P ops Q ({ dst := d, op := .assign x, type := t, pos := pos, after := aft, guard := gd } :: rest) st := ev_q hg (q_assign hx h)
theorem qm (hg : wantedA ops { dst := d, op := .move x, type := t, pos := pos, after := aft, guard := gd } st = some true) (hx : st.ev x = v) (h : QOps P ops Q rest (st.put d v)) : QOps P ops Q ({ dst := d, op := .move x, type := t, pos := pos, after := aft, guard := gd } :: rest) st := qo_q hg (q_move hx h)
theorem qa (hg : wantedA ops { dst := d, op := .assign x, type := t, pos := pos, after := aft, guard := gd } st = some true) (hx : st.ev x = v) (h : QOps P ops Q rest (st.put d v)) : QOps P ops Q ({ dst := d, op := .assign x, type := t, pos := pos, after := aft, guard := gd } :: rest) st := qo_q hg (q_assign hx h)
theorem ei {bo : BinOp} {y : Operand} {t2 t3 : TypeId} {k : IntKind} {a b : Int} (hg : wantedA ops { dst := d, op := .binOp bo t2 x y t3, type := t, pos := pos, after := aft, guard := gd } st = some true) (hx : st.ev x = .s (.int k a)) (hy : st.ev y = .s (.int k b)) (h : intBin bo k a b fun v => EVops P ops Q rest (st.put d v)) : EVops P ops Q ({ dst := d, op := .binOp bo t2 x y t3, type := t, pos := pos, after := aft, guard := gd } :: rest) st := ev_q hg (q_int hx hy h)
theorem gr {N : Nat} {R : Exit → St → Prop} {id : Nat} {l : List Oper} (hN : dstsOk N l = true) (h : EVops P l.toArray (R .normal) l st) : Good P N (.region id l.toArray false) R st := good_region hN h
end
theorem sub_osl {N : Nat} {st : St} (t : Nat) {k n : Nat} {ty sz : Nat} {es : List AV} (ht : st.env t = .own k n) (hk : st.H k = some (.row ty sz es)) : Sub N st { env := upd st.env t (.osl k 0 n), H := st.H } := by
  intro P C hC a w ⟨φ, g⟩
  refine ⟨φ, g.size, g.defers, g.below, g.mine, g.keep, g.disj, g.own, fun i => ?_⟩
  by_cases hi : i = t
  · subst hi
    simp only [upd_same]
    have hr := g.rep i
    rw [ht] at hr
    obtain ⟨ty', sz', es', A, m, c, hH', hφ, hn, hx⟩ := hr
    rw [hk] at hH'
    cases hH'
    obtain ⟨xs, hown, -⟩ := g.own _ _ hk
    rw [hφ] at hown
    refine ⟨ty, sz, es, A, m, c, A, c, hk, hφ, by omega, hx, fun h0 => ?_⟩
    rcases hown.cases with ⟨h0', -, a', h'⟩ | ⟨g', cap, cur, h', hB, hg', hn2, hcm, hcs, ht⟩
    · cases h'; omega
    · cases h'
      exact ⟨g', rfl, by rw [Nat.zero_mul], by omega, by omega⟩
  · simp only [upd_ne _ _ hi]
    exact g.rep i
theorem sub_oslB {N : Nat} {st : St} (d c : Nat) {k n : Nat} {ty ty2 sz : Nat} {cs es : List AV} (hd : st.H d = some (.box ty2 cs)) (hc : cs[c]? = some (.own k n)) (hk : st.H k = some (.row ty sz es)) : Sub N st { env := st.env, H := upd st.H d (some (.box ty2 (cs.set c (.osl k 0 n)))) } := by
  intro P C hC a w ⟨φ, g⟩
  have hkd : k ≠ d := fun e => by subst e; rw [hk] at hd; cases hd
  refine ⟨φ, g.write hd (.inl ⟨_, _, _, rfl, rfl⟩) ⟨rfl, rfl, rfl, Nat.le_refl _, fun _ _ _ => rfl⟩ (fun tr => ?_)⟩
  obtain ⟨b, arr, h1, h2, h3, h4⟩ := g.own _ _ hd
  refine ⟨b, arr, h1, h2, h3, by rw [List.length_set]; exact h4.1, fun i x v hx hv => ?_⟩
  by_cases hi : i = c
  · subst hi
    have hlt : i < cs.length := (List.getElem?_eq_some_iff.1 hc).1
    rw [List.getElem?_set_self hlt] at hx
    cases hx
    have hr := h4.2 i _ v hc hv
    obtain ⟨ty', sz', es', A, m, c', hH', hφ, hn, hx⟩ := hr
    rw [hk] at hH'
    cases hH'
    obtain ⟨xs, hown, -⟩ := g.own _ _ hk
    rw [hφ] at hown
    refine ⟨ty, sz, es, A, m, c', A, c', by rw [upd_ne _ _ hkd]; exact hk, hφ, by omega, hx, fun h0 => ?_⟩
    rcases hown.cases with ⟨h0', -, a', h'⟩ | ⟨g', cap, cur, h', hB, hg', hn2, hcm, hcs, ht⟩
    · cases h'; omega
    · cases h'
      exact ⟨g', rfl, by rw [Nat.zero_mul], by omega, by omega⟩
  · rw [List.getElem?_set_ne (fun e => hi e.symm)] at hx
    exact tr _ _ (h4.2 i x v hx hv)
end Go.Proofs.Ytdnndlalflahhaa.Ev
