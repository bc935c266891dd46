/- Aggregates and slices that are written out; zero values. -/
import Derived.Test.YtdnndlalflahhaaEvG
import Derived.Laws.MakeOwn
set_option linter.unusedVariables false
set_option linter.unusedSimpArgs false
namespace Go.Proofs.Ytdnndlalflahhaa.Ev
open Go Go.RowKit
def splice (cs : List AV) (o : Nat) (xs : List AV) : List AV := cs.take o ++ xs ++ cs.drop (o + xs.length)
def spliceV (cs : List Value) (o : Nat) (xs : List Value) : List Value := cs.take o ++ xs ++ cs.drop (o + xs.length)
theorem splice_length {cs : List AV} {o : Nat} {xs : List AV} (h : o + xs.length ≤ cs.length) : (splice cs o xs).length = cs.length := by
  simp [splice]; omega
theorem All2.append {R : AV → Value → Prop} {xs ys : List AV} {vs us : List Value} (h : All2 R xs vs) (k : All2 R ys us) : All2 R (xs ++ ys) (vs ++ us) := by
  refine ⟨by simp [h.1, k.1], fun i x v hx hv => ?_⟩
  by_cases hi : i < xs.length
  · rw [List.getElem?_append_left hi] at hx
    rw [List.getElem?_append_left (by rw [h.1]; exact hi)] at hv
    exact h.2 i x v hx hv
  · rw [List.getElem?_append_right (by omega)] at hx
    rw [List.getElem?_append_right (by rw [h.1]; omega), h.1] at hv
    exact k.2 _ x v hx hv
theorem All2.splice {R : AV → Value → Prop} {cs xs : List AV} {vs us : List Value} (h : All2 R cs vs) (k : All2 R xs us) (o : Nat) : All2 R (Ev.splice cs o xs) (spliceV vs o us) := by
  unfold Ev.splice spliceV
  rw [k.1]
  exact ((h.take o).append k).append (h.drop _)
theorem foldl_set (off : Nat) : ∀ (cs : List Value) (k : Nat) (cells : Array Value), off + k + cs.length ≤ cells.size →
    ((cs.zipIdx k).foldl (fun (acc : Array Value) (p : Value × Nat) => acc.setIfInBounds (off + p.2) p.1) cells).toList = spliceV cells.toList (off + k) cs := by
  intro cs
  induction cs with
  | nil => intro k cells h; simp [spliceV]
  | cons c cs ih =>
    intro k cells h
    simp only [List.length_cons] at h
    rw [List.zipIdx_cons, List.foldl_cons, ih (k + 1) _ (by simp; omega)]
    simp only [spliceV, Array.toList_setIfInBounds, List.length_cons]
    have hlt : off + k < cells.toList.length := by simp; omega
    have e1 : (cells.toList.set (off + k) c).take (off + (k + 1)) = cells.toList.take (off + k) ++ [c] := by
      rw [show off + (k + 1) = (off + k) + 1 by omega, List.take_succ_eq_append_getElem (by simpa using hlt)]
      congr 1
      · rw [List.take_set_of_le (Nat.le_refl _)]
      · simp
    have e2 : (cells.toList.set (off + k) c).drop (off + (k + 1) + cs.length) = cells.toList.drop (off + k + (cs.length + 1)) := by
      rw [List.drop_set_of_lt (by omega)]
      congr 1; omega
    rw [e1, e2]
    simp
theorem fill_step {place : Nat → Option (Nat × Nat)} {cells : Array Value} {i off size : Nat} {v : Value} {rest : List (Nat × Value)} (hp : place i = some (off, size)) (hs : v.cells.toList.length = size) (hb : off + size ≤ cells.size) :
    Instr.fill place cells ((i, v) :: rest) = Instr.fill place (spliceV cells.toList off v.cells.toList).toArray rest := by
  have hs' : v.cells.size = size := by simpa using hs
  have h1 : ¬ (v.cells.size ≠ size || off + v.cells.size > cells.size) = true := by simp [hs']; omega
  have e : (v.cells.zipIdx.foldl (fun cs (x : Value × Nat) => cs.setIfInBounds (off + x.2) x.1) cells) = (spliceV cells.toList off v.cells.toList).toArray := by
    apply Array.ext'
    have := foldl_set off v.cells.toList 0 cells (by simp [hs']; omega)
    simp only [Nat.add_zero] at this
    rw [← Array.foldl_toList, Array.toList_zipIdx]
    simpa using this
  simp only [Instr.fill, hp]
  rw [if_neg h1]
  exact congrArg (fun c => Instr.fill place c rest) e
def notJunk : AV → Bool
  | .junk => false
  | _ => true
theorem RepV.one1 {φ : Nat → Value} {H : Nat → Option OB} {w : World} {ok : Nat → Prop} {v : AV} {x : Value} (h : RepV φ H w ok v x) (h1 : one v = true) (h2 : notJunk v = true) : x.oneCell' = true := by
  cases v with
  | ptr k o => obtain ⟨_, _, _, _, _, rfl⟩ := h; rfl
  | eptr k i o => obtain ⟨_, _, _, _, _, _, _, _, _, rfl⟩ := h; rfl
  | own k n => obtain ⟨_, _, _, _, _, _, _, _, _, rfl⟩ := h; rfl
  | osl k i n => obtain ⟨_, _, _, _, _, _, _, _, _, _, _, rfl, _⟩ := h; rfl
  | clo f hs => obtain ⟨rfl, _⟩ := h; rfl
  | nst k n => obtain ⟨_, _, _, _, _, _, _, h, _⟩ := h; exact h
  | nptr k i => obtain ⟨_, _, _, _, _, _, _, _, _, _, _, rfl⟩ := h; rfl
  | inr k i => obtain ⟨_, _, _, _, _, _, _, _, _, h⟩ := h; exact h
  | junk => simp [notJunk] at h2
  | agg => simp [one] at h1
  | tup => simp [one] at h1
  | _ => exact ((RepV.ro rfl).1 h).one rfl
def boxOk : AV → Bool
  | .agg cs => cs.all one && cs.all notJunk
  | .tup _ => false
  | .junk => false
  | _ => true
theorem boxOk_cells {φ : Nat → Value} {H : Nat → Option OB} {w : World} {ok : Nat → Prop} {v : AV} {x : Value} (h : boxOk v = true) (hr : RepV φ H w ok v x) :
    All2 (RepV φ H w ok) (flat v) x.cells.toList ∧ ∀ c ∈ x.cells.toList, c.oneCell' = true := by
  cases v with
  | agg cs =>
    simp only [boxOk, Bool.and_eq_true, List.all_eq_true] at h
    unfold RepV at hr
    obtain ⟨vs, rfl, hr⟩ := hr
    have h2 := RepVs_iff.1 hr
    refine ⟨by simpa [flat, Value.cells] using h2, fun c hc => ?_⟩
    have hc' : c ∈ vs := by simpa [Value.cells] using hc
    obtain ⟨i, hi, rfl⟩ := List.getElem_of_mem hc'
    have hi2 : i < cs.length := by rw [← h2.1]; exact hi
    exact (h2.2 i cs[i] vs[i] (List.getElem?_eq_getElem hi2) (List.getElem?_eq_getElem hi)).one1 (h.1 _ (List.getElem_mem _)) (h.2 _ (List.getElem_mem _))
  | tup => simp [boxOk] at h
  | junk => simp [boxOk] at h
  | _ =>
    have hx : x.oneCell' = true := hr.one1 rfl rfl
    have one1 : x.cells = #[x] := by cases x <;> first | rfl | (simp [Value.oneCell'] at hx)
    rw [one1]
    refine ⟨⟨rfl, fun i y u hy hu => ?_⟩, fun c hc => ?_⟩
    · cases i with
      | zero => simp [flat] at hy hu; subst hy hu; exact hr
      | succ i => simp [flat] at hy
    · simp at hc; subst hc; exact hx
def fillA (pl : List (Nat × Nat)) : List AV → List (Nat × AV) → Option (List AV)
  | cs, [] => some cs
  | cs, (i, v) :: r => match pl[i]? with
    | some (off, size) => if (flat v).length = size ∧ off + size ≤ cs.length ∧ boxOk v = true then fillA pl (splice cs off (flat v)) r else none
    | none => none
theorem fillA_sound {φ : Nat → Value} {H : Nat → Option OB} {w : World} {ok : Nat → Prop} {pl : List (Nat × Nat)} {place : Nat → Option (Nat × Nat)} (hp : ∀ i p, pl[i]? = some p → place i = some p) :
    ∀ (parts : List (Nat × AV)) (vals : List (Nat × Value)) (cs rs : List AV) (cells : Array Value), fillA pl cs parts = some rs → All2 (RepV φ H w ok) cs cells.toList → (∀ c ∈ cells.toList, c.oneCell' = true) →
      parts.map (·.1) = vals.map (·.1) → All2 (RepV φ H w ok) (parts.map (·.2)) (vals.map (·.2)) →
      ∃ arr, Instr.fill place cells vals = some arr ∧ All2 (RepV φ H w ok) rs arr.toList ∧ ∀ c ∈ arr.toList, c.oneCell' = true := by
  intro parts
  induction parts with
  | nil =>
    intro vals cs rs cells h h2 h1 hk _
    cases vals with
    | nil => cases h; exact ⟨cells, rfl, h2, h1⟩
    | cons _ _ => simp at hk
  | cons p parts ih =>
    intro vals cs rs cells h h2 h1 hk hv
    obtain ⟨i, v⟩ := p
    cases vals with
    | nil => simp at hk
    | cons q vals =>
      obtain ⟨i', x⟩ := q
      simp only [List.map_cons, List.cons.injEq] at hk
      obtain ⟨rfl, hk⟩ := hk
      unfold fillA at h
      split at h
      · rename_i off size hpl
        split at h
        · rename_i hc
          obtain ⟨hl, hb, hbo⟩ := hc
          have hx := hv.2 0 v x rfl rfl
          obtain ⟨ha, ho⟩ := boxOk_cells hbo hx
          have hlen : x.cells.toList.length = size := by rw [ha.1, hl]
          rw [fill_step (hp i _ hpl) hlen (by have := h2.1; simp at this; omega)]
          refine ih vals _ rs _ h (by simpa using h2.splice ha off) (fun c hc => ?_) hk ⟨by simpa using hv.1, fun j y u hy hu => hv.2 (j + 1) y u (by simpa using hy) (by simpa using hu)⟩
          simp only [spliceV, List.mem_append] at hc
          rcases hc with (hc | hc) | hc
          · exact h1 c (List.mem_of_mem_take hc)
          · exact ho c hc
          · exact h1 c (List.mem_of_mem_drop hc)
        · cases h
      · cases h
def zeroA (P : Program) (t : TypeId) : Option (List AV) :=
  match (P.info? t).bind (·.zero) with
  | some z => if z.cells.toList.all Value.oneCell' then some (z.cells.toList.map cellAV) else none
  | none => none
theorem zeroA_some {P : Program} {t : TypeId} {cs : List AV} (h : zeroA P t = some cs) : ∃ i z, P.info? t = some i ∧ i.zero = some z ∧ z.cells.toList.all Value.oneCell' = true ∧ cs = z.cells.toList.map cellAV := by
  unfold zeroA at h
  split at h
  · rename_i z hz
    split at h
    · rename_i h1
      cases h
      cases hi : P.info? t with
      | none => rw [hi] at hz; cases hz
      | some i => rw [hi] at hz; exact ⟨i, z, rfl, hz, h1, rfl⟩
    · cases h
  · cases h
def sizesA (P : Program) : List Field → Option (List (Nat × Nat))
  | [] => some []
  | f :: fs => match P.info? f.type, sizesA P fs with
    | some i, some r => some ((f.offset, i.size) :: r)
    | _, _ => none
def placesA (P : Program) (t : TypeId) : Option (List (Nat × Nat)) :=
  match P.underlying t with
  | some (.struct fs) => sizesA P fs.toList
  | some (.array n e) => match P.info? e with
    | some i => some ((List.range n).map fun k => (k * i.size, i.size))
    | none => none
  | _ => none
def buildQ (P : Program) (st : St) (t : TypeId) (parts : List (Nat × Operand)) (K : AV → Prop) : Prop :=
  match zeroA P t, placesA P t with
  | some z, some pl => (match fillA pl z (parts.map fun p => (p.1, st.ev p.2)) with
    | some cs => K (.agg cs)
    | none => False)
  | _, _ => False
theorem sizesA_run {P : Program} (w : World) : ∀ {fs : List Field} {r : List (Nat × Nat)}, sizesA P fs = some r → (fs.mapM (fun f => do pure (f.offset, ← sizeOf f.type) : Field → Sem (Nat × Nat))).run P w = .ok r w := by
  intro fs
  induction fs with
  | nil => intro r h; cases h; rfl
  | cons f fs ih =>
    intro r h
    unfold sizesA at h
    split at h
    · rename_i i r' hi hr
      cases h
      rw [List.mapM_cons]
      simp only [Sem.run_bind, run_sizeOf' hi, Result.andThen_ok, Sem.run_pure, ih hr]
    · cases h
section
variable {P : Program} {C : Ctx P} {st : St} {φ : Nat → Value} {a : Act} {w : World}
theorem parts_rep (g : GamW C st φ a w) (parts : List (Nat × Operand)) : (parts.map fun p => (p.1, st.ev p.2)).map (·.1) = (parts.map fun p => (p.1, a.eval p.2)).map (·.1) ∧
    All2 (RepV φ st.H w (okG C φ st.H)) ((parts.map fun p => (p.1, st.ev p.2)).map (·.2)) ((parts.map fun p => (p.1, a.eval p.2)).map (·.2)) := by
  refine ⟨by simp, ?_⟩
  have := args_rep g (parts.map (·.2))
  simpa [List.map_map, Function.comp_def] using this
theorem buildQ_sound (g : GamW C st φ a w) {t : TypeId} {parts : Array (Nat × Operand)} {K : AV → Prop} (h : buildQ P st t parts.toList K) :
    ∃ v r, K v ∧ RepV φ st.H w (okG C φ st.H) v r ∧ (Instr.build t (parts.map fun (i, x) => (i, a.eval x))).run P w = .ok r w := by
  unfold buildQ at h
  split at h
  · rename_i z pl hz hpl
    split at h
    · rename_i cs hcs
      have hK := h
      obtain ⟨i, zv, hi, hzv, hz1, rfl⟩ := zeroA_some hz
      obtain ⟨hk, hv⟩ := parts_rep g parts.toList
      have hcells : All2 (RepV φ st.H w (okG C φ st.H)) (zv.cells.toList.map cellAV) zv.cells.toList := .of_reps (Reps.cells _ hz1)
      have hone : ∀ c ∈ zv.cells.toList, c.oneCell' = true := List.all_eq_true.1 hz1
      have hlst : (parts.map fun (i, x) => (i, a.eval x)).toList = parts.toList.map fun p => (p.1, a.eval p.2) := by simp
      unfold placesA at hpl
      split at hpl
      · rename_i fs hu
        obtain ⟨arr, h1, h2, h3⟩ := fillA_sound (place := fun j => pl[j]?) (fun _ _ h => h) _ _ _ _ zv.cells hcs hcells hone hk hv
        refine ⟨_, .agg arr, hK, ?_, ?_⟩
        · have := RepV.agg h2; simpa using this
        · have hm := sizesA_run w hpl
          have hm2 : (fs.mapM (fun f => do pure (f.offset, ← sizeOf f.type) : Field → Sem (Nat × Nat))).run P w = .ok pl.toArray w := by
            obtain ⟨l⟩ := fs
            rw [List.mapM_toArray, Sem.run_map]
            have hm' : (List.mapM (fun f => do pure (f.offset, ← sizeOf f.type) : Field → Sem (Nat × Nat)) l).run P w = .ok pl w := hm
            rw [hm']
            rfl
          simp only [Instr.build, Sem.run_bind, zeroValue, typeInfo, run_program, Result.andThen_ok, hi, Sem.run_pure, hzv, run_underlying hu, hm2, hlst]
          have h1' : Instr.fill (fun x => pl.toArray[x]?) zv.cells (parts.toList.map fun p => (p.1, a.eval p.2)) = some arr := by simpa using h1
          simp only [h1']
          rfl
      · rename_i n e hu
        split at hpl
        · rename_i ie hie
          cases hpl
          obtain ⟨arr, h1, h2, h3⟩ := fillA_sound (place := fun j => some (j * ie.size, ie.size)) (fun j p hj => by
            rw [List.getElem?_map] at hj
            cases hr : (List.range n)[j]? with
            | none => rw [hr] at hj; cases hj
            | some k =>
              rw [hr] at hj
              have : k = j := by
                obtain ⟨hlt, he⟩ := List.getElem?_eq_some_iff.1 hr
                simpa using he.symm
              subst this; simpa using hj) _ _ _ _ zv.cells hcs hcells hone hk hv
          refine ⟨_, .agg arr, hK, ?_, ?_⟩
          · have := RepV.agg h2; simpa using this
          · simp only [Instr.build, Sem.run_bind, zeroValue, typeInfo, run_program, Result.andThen_ok, hi, Sem.run_pure, hzv, run_underlying hu, run_sizeOf' hie, hlst, h1]
        · cases hpl
      · cases hpl
    · exact h.elim
  · exact h.elim
end
end Go.Proofs.Ytdnndlalflahhaa.Ev
