/- What a law's arguments are, read off the data that the row's statement speaks of. -/
import Derived.Test.YtdnndlalflahhaaEvL
import Derived.Carry
import Derived.ChangeArms
import Derived.ChangeCalls
import Derived.ChangeOld
import Derived.RowKit
import Derived.SizedLaws
set_option linter.unusedVariables false
set_option linter.unusedSimpArgs false
namespace Go.Proofs.Ytdnndlalflahhaa.Ev
open Go Go.RowKit Go.ChangeShapes Go.WideShapes
inductive Sh where
  | int (k : IntKind)
  | bool
  | str
  | agg (ss : List Sh)
  | slc (b : Nat) (s : Sh)
mutual
def Sh.size : Sh → Nat
  | .agg ss => Sh.sizes ss
  | .int _ => 1
  | .bool => 1
  | .str => 1
  | .slc _ _ => 1
def Sh.sizes : List Sh → Nat
  | [] => 0
  | s :: ss => s.size + Sh.sizes ss
end
def Sh.wrap : Sh → List AV → AV
  | .agg _, cs => .agg cs
  | _, c :: _ => c
  | _, [] => .junk
mutual
def Sh.is : Sh → List AV → Prop
  | .int k, cs => ∃ n, cs = [.s (.int k n)] ∧ (Lit.int k n).wf = true
  | .bool, cs => ∃ b, cs = [.s (.bool b)]
  | .str, cs => ∃ t, cs = [.s (.string t)] ∧ t.size ≤ reachBytes
  | .agg ss, cs => Sh.iss ss cs
  | .slc b s, cs => ∃ es, cs = [.lst s.size es] ∧ (∀ e ∈ es, ∃ c, e = s.wrap c ∧ s.is c) ∧ es.length * b ≤ reachBytes ∧ es.length ≤ maxLen
def Sh.iss : List Sh → List AV → Prop
  | [], cs => cs = []
  | s :: ss, cs => ∃ a b, cs = a ++ b ∧ s.is a ∧ Sh.iss ss b
end
mutual
def Sh.fits (P : Program) : Sh → TypeId → Bool
  | .int k, t => match P.underlying t with
    | some (.int k') => decide (k' = k)
    | _ => false
  | .bool, t => match P.underlying t with
    | some .bool => true
    | _ => false
  | .str, t => match P.underlying t with
    | some .string => true
    | _ => false
  | .agg ss, t => match P.underlying t with
    | some (.struct fs) => P.cellsOf t == Sh.sizes ss && Sh.fitss P ss fs.toList 0
    | _ => false
  | .slc b s, t => match P.underlying t with
    | some (.slice e) => s.fits P e && P.cellsOf e == s.size && P.bytesOf e == b && 0 < s.size
    | _ => false
def Sh.fitss (P : Program) : List Sh → List Field → Nat → Bool
  | [], [], _ => true
  | s :: ss, f :: fs, o => s.fits P f.type && f.offset == o && P.cellsOf f.type == s.size && Sh.fitss P ss fs (o + s.size)
  | _, _, _ => false
end
mutual
theorem Sh.is_len : ∀ (s : Sh) (cs : List AV), s.is cs → cs.length = s.size ∧ cs.all one = true
  | .int k, cs, h => by simp only [Sh.is] at h; obtain ⟨n, rfl, _⟩ := h; exact ⟨rfl, rfl⟩
  | .bool, cs, h => by simp only [Sh.is] at h; obtain ⟨n, rfl⟩ := h; exact ⟨rfl, rfl⟩
  | .str, cs, h => by simp only [Sh.is] at h; obtain ⟨n, rfl, _⟩ := h; exact ⟨rfl, rfl⟩
  | .agg ss, cs, h => by simp only [Sh.is] at h; simpa only [Sh.size] using Sh.iss_len ss cs h
  | .slc b s, cs, h => by simp only [Sh.is] at h; obtain ⟨es, rfl, _⟩ := h; exact ⟨rfl, rfl⟩
theorem Sh.iss_len : ∀ (ss : List Sh) (cs : List AV), Sh.iss ss cs → cs.length = Sh.sizes ss ∧ cs.all one = true
  | [], cs, h => by simp only [Sh.iss] at h; subst h; exact ⟨rfl, rfl⟩
  | s :: ss, cs, h => by
    simp only [Sh.iss] at h
    obtain ⟨a, b, rfl, h1, h2⟩ := h
    have e1 := Sh.is_len s a h1
    have e2 := Sh.iss_len ss b h2
    simp only [List.length_append, Sh.sizes, e1.1, e2.1, List.all_append, e1.2, e2.2, Bool.and_self, and_self]
end
theorem Sh.flat_wrap (s : Sh) (c : List AV) (h : s.is c) : flat (s.wrap c) = c := by
  cases s with
  | agg ss => rfl
  | int k => simp only [Sh.is] at h; obtain ⟨n, rfl, _⟩ := h; rfl
  | bool => simp only [Sh.is] at h; obtain ⟨n, rfl⟩ := h; rfl
  | str => simp only [Sh.is] at h; obtain ⟨n, rfl, _⟩ := h; rfl
  | slc b s => simp only [Sh.is] at h; obtain ⟨es, rfl, _⟩ := h; rfl
section
variable {H : Type} {enc : TypeId × Value → H} {P : Program} {w : World}
theorem wAll_mem {e : TypeId} : ∀ {ds : List (DataW H)} {d : DataW H}, d ∈ ds → (DataW.weightsAll P e ds).all (· ≤ reachBytes) = true → (d.weights P e).all (· ≤ reachBytes) = true
  | x :: xs, d, hm, h => by
    simp only [DataW.weightsAll, List.all_append, Bool.and_eq_true] at h
    cases hm with
    | head => exact h.1
    | tail _ hm => exact wAll_mem hm h.2
theorem wEach_get : ∀ {ts : List TypeId} {ds : List (DataW H)} {i : Nat} {t : TypeId} {d : DataW H}, ts[i]? = some t → ds[i]? = some d →
    (DataW.weightsEach P ts ds).all (· ≤ reachBytes) = true → (d.weights P t).all (· ≤ reachBytes) = true
  | [], _, _, _, _, ht, _, _ => by simp at ht
  | _ :: _, [], _, _, _, _, hd, _ => by simp at hd
  | t :: ts, d :: ds, 0, _, _, ht, hd, h => by
    simp only [List.getElem?_cons_zero, Option.some.injEq] at ht hd
    subst ht; subst hd
    simp only [DataW.weightsEach, List.all_append, Bool.and_eq_true] at h
    exact h.1
  | t :: ts, d :: ds, i + 1, _, _, ht, hd, h => by
    simp only [DataW.weightsEach, List.all_append, Bool.and_eq_true] at h
    exact wEach_get (i := i) (by simpa using ht) (by simpa using hd) h.2
theorem row_reps {arr : List Value} {o sz : Nat} {s : Sh} (hs : s.size = sz) :
    ∀ (n : Nat), (∀ i, i < n → ∃ vs c, (arr.drop (o + i * sz)).take sz = vs ∧ vs.length = sz ∧ s.is c ∧ Reps w (fun _ => True) c vs) →
      ∃ (es : List AV) (vs rest : List Value), es.length = n ∧ (∀ e ∈ es, ∃ c, e = s.wrap c ∧ s.is c) ∧ arr.drop o = vs ++ rest ∧ vs.length = n * sz ∧ Reps w (fun _ => True) (flats es) vs ∧ (∀ v ∈ vs, v.oneCell' = true)
  | 0, _ => ⟨[], [], arr.drop o, rfl, (by intro e he; cases he), rfl, (by simp), .nil, (by intro v hv; cases hv)⟩
  | n + 1, h => by
    obtain ⟨es, vs, rest, h1, h2, h3, h4, h5, h6⟩ := row_reps hs n (fun i hi => h i (by omega))
    obtain ⟨us, c, g1, g2, g3, g4⟩ := h n (by omega)
    have hr : arr.drop (o + n * sz) = rest := by
      rw [← List.drop_drop, h3, ← h4, List.drop_left]
    rw [hr] at g1
    refine ⟨es ++ [s.wrap c], vs ++ us, rest.drop sz, by simp [h1], ?_, ?_, ?_, ?_, ?_⟩
    · intro e he
      simp only [List.mem_append, List.mem_singleton] at he
      rcases he with he | he
      · exact h2 e he
      · exact ⟨c, he, g3⟩
    · rw [h3, List.append_assoc, ← g1, List.take_append_drop]
    · simp only [List.length_append, h4, g2, Nat.add_mul, Nat.one_mul]
    · have : flats (es ++ [s.wrap c]) = flats es ++ c := by simp [flats, s.flat_wrap c g3]
      rw [this]
      exact h5.append g4
    · intro v hv
      simp only [List.mem_append] at hv
      rcases hv with hv | hv
      · exact h6 v hv
      · exact g4.ones (s.is_len c g3).2 v hv
theorem cell_obj {a : Addr} {v : Value} (h : w.cell? a = some v) : a.spot = none ∧ ∃ arr ty fr, w.heap[a.block]? = some (.cells arr ty fr) ∧ arr[a.off]? = some v := by
  unfold World.cell? at h
  split at h
  · rename_i c ty fr hb
    split at h
    · simp at h
    · rename_i hs
      exact ⟨by simpa using hs, c, ty, fr, hb, h⟩
  · simp at h
theorem add_block (a : Addr) (i : Nat) : (a.add i).block = a.block := by
  unfold Addr.add; split <;> rfl
theorem add_off (a : Addr) (i : Nat) : (a.add i).off = a.off + i := by
  unfold Addr.add; split
  · rename_i h; simp only [h, Nat.add_zero]
  · rfl
theorem cells_take {base : Nat} {a : Addr} {n : Nat} {cs : List Value} {arr : Array Value} {ty : TypeId} {fr : Nat × Nat} (hb : w.heap[a.block]? = some (.cells arr ty fr)) (h : w.cells? base a n = some cs) :
    (arr.toList.drop a.off).take n = cs := by
  obtain ⟨_, hl, hg⟩ := World.cells?_some h
  apply List.ext_getElem?
  intro i
  by_cases hi : i < n
  · have := hg i hi
    rw [List.getElem?_take_of_lt hi, List.getElem?_drop, ← this]
    have hc : w.cell? (a.add i) = some (cs[i]'(by omega)) := by rw [this]; exact List.getElem?_eq_getElem (by omega)
    obtain ⟨_, arr', ty', fr', hb', hv⟩ := cell_obj hc
    rw [add_block] at hb'
    rw [add_off] at hv
    rw [hb] at hb'
    simp only [Option.some.injEq, Obj.cells.injEq] at hb'
    obtain ⟨rfl, _, _⟩ := hb'
    rw [hc, Array.getElem?_toList]
    exact hv
  · rw [List.getElem?_eq_none (by simp; omega), List.getElem?_eq_none (by omega)]
theorem fits_int {k : IntKind} {t : TypeId} (h : (Sh.int k).fits P t = true) : P.underlying t = some (.int k) := by
  simp only [Sh.fits] at h; split at h <;> simp_all
theorem fits_bool {t : TypeId} (h : Sh.bool.fits P t = true) : P.underlying t = some .bool := by
  simp only [Sh.fits] at h; split at h <;> simp_all
theorem fits_str {t : TypeId} (h : Sh.str.fits P t = true) : P.underlying t = some .string := by
  simp only [Sh.fits] at h; split at h <;> simp_all
theorem fits_agg {ss : List Sh} {t : TypeId} (h : (Sh.agg ss).fits P t = true) : ∃ fs, P.underlying t = some (.struct fs) ∧ P.cellsOf t = Sh.sizes ss ∧ Sh.fitss P ss fs.toList 0 = true := by
  simp only [Sh.fits] at h
  split at h
  · rename_i fs hu
    simp only [Bool.and_eq_true, beq_iff_eq] at h
    exact ⟨fs, hu, h.1, h.2⟩
  · simp at h
theorem fits_slc {b : Nat} {s : Sh} {t : TypeId} (h : (Sh.slc b s).fits P t = true) : ∃ e, P.underlying t = some (.slice e) ∧ s.fits P e = true ∧ P.cellsOf e = s.size ∧ P.bytesOf e = b ∧ 0 < s.size := by
  simp only [Sh.fits] at h
  split at h
  · rename_i e hu
    simp only [Bool.and_eq_true, beq_iff_eq, decide_eq_true_eq] at h
    exact ⟨e, hu, h.1.1.1, h.1.1.2, h.1.2, h.2⟩
  · simp at h
theorem fields_reps {n : Nat}
    (ih : ∀ (s : Sh) (t : TypeId) (cs : List Value) (x : DataW H × List MemPlace), DataW.trod enc P w 0 (fun _ => true) true n t cs = some x → s.fits P t = true →
      (x.1.weights P t).all (· ≤ reachBytes) = true → ∃ c, s.is c ∧ Reps w (fun _ => True) c cs) :
    ∀ (ss : List Sh) (fs : List Field) (o : Nat) (xs : List (DataW H × List MemPlace)) (cs : List Value), Sh.fitss P ss fs o = true → cs.length = o + Sh.sizes ss → xs.length = fs.length →
      (∀ (i : Nat) (f : Field), fs[i]? = some f → DataW.trod enc P w 0 (fun _ => true) true n f.type ((cs.drop f.offset).take (P.cellsOf f.type)) = xs[i]?) →
      (DataW.weightsEach P (fs.map (·.type)) (xs.map (·.1))).all (· ≤ reachBytes) = true →
      ∃ c, Sh.iss ss c ∧ Reps w (fun _ => True) c (cs.drop o)
  | [], [], o, xs, cs, hf, hl, _, _, _ => ⟨[], by simp only [Sh.iss], by
      simp only [Sh.sizes, Nat.add_zero] at hl
      rw [List.drop_eq_nil_of_le (by omega)]; exact .nil⟩
  | [], _ :: _, o, xs, cs, hf, _, _, _, _ => by simp [Sh.fitss] at hf
  | _ :: _, [], o, xs, cs, hf, _, _, _, _ => by simp [Sh.fitss] at hf
  | s :: ss, f :: fs, o, [], cs, hf, hl, hx, ht, hw => by simp at hx
  | s :: ss, f :: fs, o, x :: xs, cs, hf, hl, hx, ht, hw => by
    simp only [Sh.fitss, Bool.and_eq_true, beq_iff_eq] at hf
    obtain ⟨⟨⟨hf1, hf2⟩, hf3⟩, hf4⟩ := hf
    simp only [List.map_cons, DataW.weightsEach, List.all_append, Bool.and_eq_true] at hw
    obtain ⟨c1, i1, r1⟩ := ih s f.type _ x (by simpa using ht 0 f rfl) hf1 hw.1
    obtain ⟨c2, i2, r2⟩ := fields_reps ih ss fs (o + s.size) xs cs hf4 (by simp only [Sh.sizes] at hl; omega) (by simpa using hx)
      (fun i g hg => by simpa using ht (i + 1) g (by simpa using hg)) hw.2
    refine ⟨c1 ++ c2, by simp only [Sh.iss]; exact ⟨c1, c2, rfl, i1, i2⟩, ?_⟩
    rw [hf2, hf3] at r1
    have := r1.append r2
    rwa [← List.drop_drop, List.take_append_drop] at this
theorem trod_is : ∀ (n : Nat) (s : Sh) (t : TypeId) (cs : List Value) (x : DataW H × List MemPlace), DataW.trod enc P w 0 (fun _ => true) true n t cs = some x → s.fits P t = true →
      (x.1.weights P t).all (· ≤ reachBytes) = true → ∃ c, s.is c ∧ Reps w (fun _ => True) c cs := by
  intro n
  induction n with
  | zero => intro s t cs x h; simp [DataW.trod] at h
  | succ n ih =>
    intro s t cs x h hf hw
    cases s with
    | int k =>
      obtain ⟨m, rfl, rfl, hm⟩ := DataW.trod_int (fits_int hf) h
      exact ⟨[.s (.int k m)], by simp only [Sh.is]; exact ⟨m, rfl, hm⟩, .cons (.s rfl) .nil⟩
    | bool =>
      obtain ⟨m, rfl, rfl⟩ := DataW.trod_bool (fits_bool hf) h
      exact ⟨[.s (.bool m)], by simp only [Sh.is]; exact ⟨m, rfl⟩, .cons (.s rfl) .nil⟩
    | str =>
      obtain ⟨m, rfl, rfl, hm⟩ := DataW.trod_string (fits_str hf) h
      refine ⟨[.s (.string m)], ?_, .cons (.s rfl) .nil⟩
      simp only [Sh.is]
      simp only [DataW.weights, List.all_cons, List.all_nil, Bool.and_true, decide_eq_true_eq] at hw
      exact ⟨m, rfl, by simpa using hw⟩
    | agg ss =>
      obtain ⟨fs, hu, hc, hfs⟩ := fits_agg hf
      obtain ⟨xs, m, e, rfl, hl, hxl, hg⟩ := DataW.trod_struct hu h
      simp only [Nat.add_right_cancel_iff] at e
      subst e
      simp only [DataW.weights, hu] at hw
      obtain ⟨c, hc1, hc2⟩ := fields_reps ih ss fs.toList 0 xs cs hfs (by omega) (by simpa using hxl) (fun i f hf => hg i f (by simpa using hf)) hw
      exact ⟨c, by simpa only [Sh.is] using hc1, by simpa using hc2⟩
    | slc b s =>
      obtain ⟨e, hu, hfe, hce, hbe, hpos⟩ := fits_slc hf
      rcases DataW.trod_slice hu h with ⟨rfl, rfl⟩ | ⟨a, len, cap, elems, rest, m, e', rfl, rfl, hb, hl, hcm, hlen, hel, hsp, hns⟩
      · exact ⟨[.lst s.size []], by simp only [Sh.is]; exact ⟨[], rfl, (by intro e he; cases he), (by simp), (by simp)⟩, .cons .lst0 .nil⟩
      · simp only [Nat.add_right_cancel_iff] at e'
        subst e'
        simp only [DataW.weights, hu, List.all_cons, List.all_append, Bool.and_eq_true, decide_eq_true_eq, List.length_map] at hw
        have hbytes : len * b ≤ reachBytes := by
          rw [← hbe]
          refine Nat.le_trans (Nat.mul_le_mul_right _ ?_) hw.1
          omega
        cases len with
        | zero => exact ⟨[.lst s.size []], by simp only [Sh.is]; exact ⟨[], rfl, (by intro e he; cases he), (by simp), (by simp)⟩, .cons .lst0 .nil⟩
        | succ l =>
          have hcell : ∀ i, i < l + 1 → ∃ vs y, w.cells? 0 (a.add (i * s.size)) s.size = some vs ∧ DataW.trod enc P w 0 (fun _ => true) true n e vs = some y ∧ y ∈ elems := by
            intro i hi
            have h1 := hel i hi
            rw [hce, List.getElem?_eq_getElem (by omega), Option.bind_eq_some_iff] at h1
            obtain ⟨vs, h2, h3⟩ := h1
            exact ⟨vs, _, h2, h3, List.getElem_mem _⟩
          obtain ⟨vs0, _, hc0, _, _⟩ := hcell 0 (by omega)
          obtain ⟨_, hl0, hg0⟩ := World.cells?_some hc0
          have hc00 : w.cell? ((a.add (0 * s.size)).add 0) = some (vs0[0]'(by omega)) := by rw [hg0 0 hpos]; exact List.getElem?_eq_getElem (by omega)
          obtain ⟨hspot, arr, ty, fr, hblk, _⟩ := cell_obj hc00
          rw [Nat.zero_mul] at hspot
          simp only [add_block] at hblk
          have hspot' : a.spot = none := by simpa [Addr.add] using hspot
          obtain ⟨es, vs, rst, g1, g2, g3, g4, g5, g6⟩ := row_reps (w := w) (arr := arr.toList) (o := a.off) (sz := s.size) (s := s) rfl (l + 1) (by
            intro i hi
            obtain ⟨us, y, k1, k2, k3⟩ := hcell i hi
            obtain ⟨c, k4, k5⟩ := ih s e us y k2 hfe (wAll_mem (List.mem_map_of_mem k3) hw.2.1)
            have := cells_take (a := a.add (i * s.size)) (by rw [add_block]; exact hblk) k1
            rw [add_off] at this
            exact ⟨us, c, this, (World.cells?_some k1).2.1, k4, k5⟩)
          refine ⟨[.lst s.size es], ?_, .cons ?_ .nil⟩
          · simp only [Sh.is]
            exact ⟨es, rfl, g2, by rw [g1]; exact hbytes, by omega⟩
          · rw [← g1]
            refine .lst ?_ (by omega) hspot' trivial hblk g3 g6 g5
            intro x hx
            obtain ⟨c, rfl, hc⟩ := g2 x hx
            rw [s.flat_wrap c hc, (s.is_len c hc).1]
end
end Go.Proofs.Ytdnndlalflahhaa.Ev
namespace Go.Proofs.Ytdnndlalflahhaa.Ev
open Go Go.RowKit Go.ChangeShapes Go.WideShapes
section
variable {H : Type} {enc : TypeId × Value → H} {P : Program} {w : World}
theorem value_is {s : Sh} {t : TypeId} {v : Value} {d : DataW H} {p : List MemPlace} {b0 : Nat} (hv : Value.okWide P w .any b0 t v) (h : DataW.Trod enc P w 0 (fun _ => true) true t v d p) (hf : s.fits P t = true)
    (hw : (d.weights P t).all (· ≤ reachBytes) = true) : ∃ c, s.is c ∧ Rep w (fun _ => True) (s.wrap c) v := by
  obtain ⟨n, hn⟩ := h
  obtain ⟨c, hc, hr⟩ := trod_is n s t _ _ hn hf hw
  refine ⟨c, hc, ?_⟩
  cases s with
  | agg ss =>
    obtain ⟨fs, hu, _⟩ := fits_agg hf
    obtain ⟨cs, rfl, _⟩ := okWide_struct hu hv
    simp only [Value.cells] at hr
    exact Rep.agg (vs := cs.toList) hr
  | int k =>
    obtain ⟨m, rfl⟩ := okWide_int (fits_int hf) hv
    simp only [Sh.is] at hc; obtain ⟨m, rfl, _⟩ := hc
    simp only [Value.cells] at hr
    cases hr with | cons hr _ => exact hr
  | bool =>
    obtain ⟨m, rfl⟩ := okWide_bool (fits_bool hf) hv
    simp only [Sh.is] at hc; obtain ⟨m, rfl⟩ := hc
    simp only [Value.cells] at hr
    cases hr with | cons hr _ => exact hr
  | str =>
    obtain ⟨m, rfl⟩ := okWide_string (fits_str hf) hv
    simp only [Sh.is] at hc; obtain ⟨m, rfl, _⟩ := hc
    simp only [Value.cells] at hr
    cases hr with | cons hr _ => exact hr
  | slc b s =>
    obtain ⟨e, hu, _⟩ := fits_slc hf
    obtain ⟨a, l, k, rfl⟩ := okWide_slice hu hv
    simp only [Sh.is] at hc; obtain ⟨m, rfl, _⟩ := hc
    simp only [Value.cells] at hr
    cases hr with | cons hr _ => exact hr
def isAll : List Sh → List AV → Prop
  | [], xs => xs = []
  | s :: ss, xs => ∃ c ys, xs = s.wrap c :: ys ∧ s.is c ∧ isAll ss ys
def fitsAll (P : Program) : List Sh → List TypeId → Bool
  | [], [] => true
  | s :: ss, t :: ts => s.fits P t && fitsAll P ss ts
  | _, _ => false
theorem args_is {b0 : Nat} : ∀ {ss : List Sh} {ts : List TypeId} {vs : List Value} {ds : List (DataW H)} {p : List MemPlace}, DataW.TrodAll enc P w 0 (fun _ => true) true ts vs ds p →
    (DataW.weightsEach P ts ds).all (· ≤ reachBytes) = true → fitsAll P ss ts = true → (∀ (j : Nat) t v, ts[j]? = some t → vs[j]? = some v → Value.okWide P w .any b0 t v) →
    ∃ xs, isAll ss xs ∧ Reps w (fun _ => True) xs vs
  | [], [], vs, ds, p, h, _, _, _ => by
    obtain ⟨rfl, rfl, rfl⟩ := trodAll_nil h
    exact ⟨[], rfl, .nil⟩
  | [], _ :: _, _, _, _, _, _, hf, _ => by simp [fitsAll] at hf
  | _ :: _, [], _, _, _, _, _, hf, _ => by simp [fitsAll] at hf
  | s :: ss, t :: ts, vs, ds, p, h, hw, hf, hok => by
    obtain ⟨v0, vs0, d0, ds0, p0, q0, rfl, rfl, rfl, h0, r0⟩ := trodAll_cons h
    simp only [fitsAll, Bool.and_eq_true] at hf
    simp only [DataW.weightsEach, List.all_append, Bool.and_eq_true] at hw
    obtain ⟨c, hc, hr⟩ := value_is (hok 0 t v0 rfl rfl) h0 hf.1 hw.1
    obtain ⟨xs, hx, hrs⟩ := args_is r0 hw.2 hf.2 (fun j t v h1 h2 => hok (j + 1) t v (by simpa using h1) (by simpa using h2))
    exact ⟨s.wrap c :: xs, by simp only [isAll]; exact ⟨c, xs, rfl, hc, hx⟩, .cons hr hrs⟩
theorem Below.trods (hl : laidOutB P = true) {w' : World} (hb : Below w.heap.size w w') : ∀ {ts : List TypeId} {vs : List Value} {ds : List (DataW H)} {p : List MemPlace}, (ts.all fun t => P.readableRec t && decide (t < P.types.size)) = true →
    DataW.TrodAll enc P w 0 (fun _ => true) true ts vs ds p → (∀ x ∈ p, x.block < w.heap.size) → DataW.TrodAll enc P w' 0 (fun b => decide (b < w.heap.size)) true ts vs ds p
  | [], vs, ds, p, _, h, _ => by
    obtain ⟨rfl, rfl, rfl⟩ := trodAll_nil h
    rfl
  | t :: ts, vs, ds, p, hr, h, hlt => by
    obtain ⟨v0, vs0, d0, ds0, p0, q0, rfl, rfl, rfl, h0, r0⟩ := trodAll_cons h
    simp only [List.all_cons, Bool.and_eq_true, decide_eq_true_eq] at hr
    exact ⟨p0, q0, Below.trod hl hr.1.1 hr.1.2 h0 hb (fun x hx => hlt x (by simp [hx])), Below.trods hl hb hr.2 r0 (fun x hx => hlt x (by simp [hx])), rfl⟩
end
theorem lifted_of {a : Assume} {C : Checked} {os : Os} {f : FuncId} {fn : Func} {s : ChangeSpec} {conds : List PathCond} {H : Type} {enc : TypeId × Value → H} {tb : TypeId} (ss : List Sh)
    (own : ownKnob C.prog.godebug = none) (started : os.Started) (noInit : C.prog.inits.idxOf? f = none) (hfn : C.prog.funcs[f]? = some fn)
    (witness : ∃ (w : World) (tape : Tape) (i : Input), w.os = os ∧ (w.forCall tape i).Shaped C.prog ∧ i.vars = [] ∧ Input.okWide C.prog (w.forCall tape i) .any w.heap.size f i ∧
      s.pre6 enc C.prog fn conds false (w.forCall tape i).memory i.args ∧ a.holds C.prog (lone (Frame.enter C.prog f i.args .normal) [] (w.forCall tape i)))
    (hvars : s.vars = []) (hspec : ∀ ds : List (DataW H), ds.length = fn.params.toList.length → s.fn H ds = { results := [.lit (.bool true)], args := ds })
    (hres : fn.resultTypes = #[tb]) (htb : C.prog.underlying tb = some .bool) (hlaid : laidOutB C.prog = true)
    (hread : (fn.params.toList.all fun t => C.prog.readableRec t && decide (t < C.prog.types.size)) = true)
    (hfits : fitsAll C.prog ss fn.params.toList = true) (hglb : (watched.all fun n => (C.prog.globalNamed n).isNone) = true)
    (den : ∀ xs, isAll ss xs → Den C.prog f xs (.s (.bool true))) :
    ReturnsInHanded a C os f .any (s.pre6 enc C.prog fn conds false) (s.post enc C.prog fn false true false false) := by
  refine returnsInHanded_of_change_sized own started noInit hfn witness ?_
  intro W base args ds gs before hval hW _ hsz _
  have hW' := hW
  obtain ⟨p, q, hA, hV, rfl, hfz, hnd⟩ := hW
  rw [hvars] at hV
  obtain ⟨rfl, rfl⟩ : gs = [] ∧ q = [] := by
    cases gs with
    | nil => exact ⟨rfl, hV⟩
    | cons g gs => simp [DataW.TrodVars] at hV
  have hlen := Go.trodAll_length hA
  have hsz' : (DataW.weightsEach C.prog fn.params.toList ds).all (· ≤ reachBytes) = true := by
    simpa [ChangeSpec.plain, DataSpec.varTypes, hvars] using hsz
  obtain ⟨xs, hx, hr⟩ := args_is (ss := ss) hA hsz' hfits (by
    intro j t v h1 h2
    exact hval j t v (by simpa using h1) (by simpa using h2))
  have hG : Glb C.prog W (fun _ => True) := fun n g hn hg => by
    have := List.all_eq_true.1 hglb n hn
    rw [hg] at this; cases this
  have hd := (den xs hx).2 W (fun _ => True) args.toList hG hr
  rw [Array.toArray_toList] at hd
  refine hd.mono fun e W' ⟨v, he, bel, hrep⟩ => ?_
  cases hrep
  subst he
  have hsp := hspec (ds ++ []) (by simpa using hlen.2)
  refine ⟨_, rfl, ds, [], p ++ [], [], p, [], hW', ?_, ?_, ?_, bel.frame _, fun h => by cases h⟩
  · rw [hsp, hres]
    exact trodAll_mk1 (shut_bool htb _)
  · rw [hsp]
    simp only [List.append_nil]
    exact Below.trods hlaid bel hread hA hA.lt
  · rw [hsp, hvars]; rfl
end Go.Proofs.Ytdnndlalflahhaa.Ev
