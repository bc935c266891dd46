/- The operations that leave memory as it is: that they do what was said. -/
import Derived.Test.YtdnndlalflahhaaEvC
import Derived.Laws.StructEq
import Derived.ChangeKeysEq
set_option linter.unusedVariables false
set_option linter.unusedSimpArgs false
namespace Go.Proofs.Ytdnndlalflahhaa.Ev
open Go Go.RowKit
def CellsAt (w : World) (b o : Nat) (vs : List Value) : Prop :=
  ∃ arr ty fr rest, w.heap[b]? = some (.cells arr ty fr) ∧ arr.toList.drop o = vs ++ rest
theorem add_none (b o j : Nat) : (⟨b, o, none⟩ : Addr).add j = ⟨b, o + j, none⟩ := by
  unfold Addr.add; split <;> simp_all
theorem CellsAt.cell {w : World} {b o : Nat} {vs : List Value} (h : CellsAt w b o vs) {j : Nat} {v : Value} (hj : vs[j]? = some v) : w.cell? ⟨b, o + j, none⟩ = some v := by
  obtain ⟨arr, ty, fr, rest, hb, hd⟩ := h
  have h1 : (arr.toList.drop o)[j]? = some v := by
    rw [hd, List.getElem?_append_left (List.getElem?_eq_some_iff.1 hj).1]; exact hj
  rw [List.getElem?_drop] at h1
  simp only [World.cell?, hb]
  simpa using h1
theorem CellsAt.drop {w : World} {b o : Nat} {vs : List Value} (h : CellsAt w b o vs) (n : Nat) : CellsAt w b (o + n) (vs.drop n) := by
  obtain ⟨arr, ty, fr, rest, hb, hd⟩ := h
  refine ⟨arr, ty, fr, rest.drop (n - vs.length), hb, ?_⟩
  rw [← List.drop_drop, hd, List.drop_append]
theorem tAgg_some {P : Program} {t : TypeId} {n : Nat} (h : tAgg P t = some (some n)) : ∃ d i, P.underlying t = some d ∧ P.info? t = some i ∧ i.size = n ∧ (∀ w, (isAgg t).run P w = .ok true w) := by
  unfold tAgg at h
  split at h
  · rename_i fs i hu hi; cases h; exact ⟨_, i, hu, hi, rfl, fun w => by simp [isAgg, run_underlying hu]⟩
  · rename_i k e i hu hi; cases h; exact ⟨_, i, hu, hi, rfl, fun w => by simp [isAgg, run_underlying hu]⟩
  · cases h
  · cases h
theorem tAgg_none {P : Program} {t : TypeId} (h : tAgg P t = some none) : ∀ w, (isAgg t).run P w = .ok false w := by
  unfold tAgg at h
  split at h
  · cases h
  · cases h
  · rename_i d i h1 h2 hu hi
    intro w
    cases d <;> first
      | exact (h1 _ rfl).elim
      | exact (h2 _ _ rfl).elim
      | (simp [isAgg, run_underlying hu]; done)
  · cases h
theorem run_sizeOf' {P : Program} {t : TypeId} {i : TypeInfo} (h : P.info? t = some i) (w : World) : (sizeOf t).run P w = .ok i.size w := by
  simp [sizeOf, typeInfo, h]
theorem load_agg {P : Program} {w : World} {t : TypeId} {n b o : Nat} {vs : List Value} (ht : tAgg P t = some (some n)) (hc : CellsAt w b o vs) (hn : n ≤ vs.length) :
    (loadVar t ⟨b, o, none⟩).run P w = .ok (.agg (vs.take n).toArray) w := by
  obtain ⟨d, i, hu, hi, hs, ha⟩ := tAgg_some ht
  have hl := run_loadCells_list (P := P) w ⟨b, o, none⟩ (vs.take n) (fun j v hj => by
    rw [List.getElem?_take] at hj
    split at hj
    · rw [add_none]; exact hc.cell hj
    · cases hj)
  have : (vs.take n).length = i.size := by simp; omega
  rw [this] at hl
  simp [loadVar, ha, run_sizeOf' hi, hl]
theorem load_one {P : Program} {w : World} {t : TypeId} {b o : Nat} {v : Value} {vs : List Value} (ht : tAgg P t = some none) (hc : CellsAt w b o (v :: vs)) :
    (loadVar t ⟨b, o, none⟩).run P w = .ok v w := by
  have h := hc.cell (j := 0) (v := v) rfl
  simp only [Nat.add_zero] at h
  simp [loadVar, tAgg_none ht, h]
section
variable {P : Program} {C : Ctx P} {st : St} {φ : Nat → Value} {a : Act} {w : World}
theorem Rep.rp_inv {ok : Nat → Prop} {cs : List AV} {x : Value} (h : Rep w ok (.rp cs) x) : ∃ b o vs, x = .pointer (some ⟨b, o, none⟩) ∧ ok b ∧ CellsAt w b o vs ∧ (∀ v ∈ vs, v.oneCell' = true) ∧ Reps w ok cs vs := by
  cases h with
  | rp hs hk hb hd h1 hr =>
    rename_i a arr ty fr vs rest
    obtain ⟨b, o, sp⟩ := a
    simp only at hs; subst hs
    exact ⟨b, o, vs, rfl, hk, ⟨arr, ty, fr, rest, hb, hd⟩, h1, hr⟩
theorem Rep.rp_mk {ok : Nat → Prop} {cs : List AV} {b o : Nat} {vs : List Value} (hk : ok b) (hc : CellsAt w b o vs) (h1 : ∀ v ∈ vs, v.oneCell' = true) (hr : Reps w ok cs vs) : Rep w ok (.rp cs) (.pointer (some ⟨b, o, none⟩)) := by
  obtain ⟨arr, ty, fr, rest, hb, hd⟩ := hc
  exact .rp rfl hk hb hd h1 hr
theorem flats_drop {es : List AV} {sz : Nat} (h : ∀ e ∈ es, (flat e).length = sz) (i : Nat) : (flats es).drop (i * sz) = flats (es.drop i) := by
  induction es generalizing i with
  | nil => simp [flats]
  | cons e es ih =>
    cases i with
    | zero => simp
    | succ i =>
      have he := h e (by simp)
      have h1 : flats (e :: es) = flat e ++ flats es := rfl
      rw [h1, List.drop_append, he]
      have : (i + 1) * sz - sz = i * sz := by rw [Nat.succ_mul]; omega
      rw [this, ih (fun e he => h e (by simp [he]))]
      rw [List.drop_eq_nil_of_le (by rw [he, Nat.succ_mul]; omega)]
      simp
theorem flats_get {es : List AV} {sz : Nat} (h : ∀ e ∈ es, (flat e).length = sz) {i : Nat} {e : AV} (hi : es[i]? = some e) : ∃ rest, (flats es).drop (i * sz) = flat e ++ rest := by
  rw [flats_drop h]
  have : es.drop i = e :: es.drop (i + 1) := by
    obtain ⟨hl, he⟩ := List.getElem?_eq_some_iff.1 hi
    rw [← he]; exact List.drop_eq_getElem_cons hl
  rw [this]
  exact ⟨flats (es.drop (i + 1)), rfl⟩
theorem flats_length {es : List AV} {sz : Nat} (h : ∀ e ∈ es, (flat e).length = sz) : (flats es).length = es.length * sz := by
  induction es with
  | nil => simp [flats]
  | cons e es ih =>
    have h1 : flats (e :: es) = flat e ++ flats es := rfl
    rw [h1, List.length_append, h e (by simp), ih (fun e he => h e (by simp [he])), List.length_cons, Nat.succ_mul]; omega
theorem row_cells {ok : Nat → Prop} {H : Nat → Option OB} {ty : TypeId} {sz : Nat} {es : List AV} {g m c : Nat} (ho : OwnOb φ H w ok (.slice (some ⟨g, 0, none⟩) m c) (.row ty sz es)) {i : Nat} {e : AV} (hi : es[i]? = some e) :
    ∃ vs, CellsAt w g (i * sz) vs ∧ (∀ v ∈ vs, v.oneCell' = true) ∧ Reps w ok (flat e) vs := by
  obtain ⟨xs, hown, hr, h1, hsz⟩ := ho
  rcases hown.cases with ⟨h, _⟩ | ⟨g', cap, cur, h, hb, hg, hn, hm, hcs, ht⟩
  · have := List.eq_nil_of_length_eq_zero h; subst this; simp at hi
  · simp only [Value.slice.injEq, Option.some.injEq, Addr.mk.injEq] at h
    obtain ⟨⟨rfl, -, -⟩, rfl, rfl⟩ := h
    obtain ⟨rest, hrest⟩ := flats_get hsz hi
    have hr' := hr.drop (i * sz)
    rw [hrest] at hr'
    obtain ⟨as, bs, hab, ha, hb'⟩ := hr'.split
    refine ⟨as, ⟨cur, ty, (0, 0), bs ++ cur.toList.drop (es.length * sz), hg, ?_⟩, fun v hv => h1 v ?_, ha⟩
    · have : cur.toList = xs ++ cur.toList.drop (es.length * sz) := by rw [← ht]; exact (List.take_append_drop _ _).symm
      have hle : i * sz ≤ xs.length := by
        have : i < es.length := (List.getElem?_eq_some_iff.1 hi).1
        rw [hown.length]; exact Nat.mul_le_mul_right _ (by omega)
      rw [this, List.drop_append_of_le_length hle, hab, List.append_assoc]
      congr 1
      congr 1
      rw [← this]
    · have : v ∈ xs.drop (i * sz) := by rw [hab]; simp [hv]
      exact List.mem_of_mem_drop this
theorem nest_inv {ok : Nat → Prop} {H : Nat → Option OB} {ty tyI szI : Nat} {rows : List (List AV)} {fv fo : Value} {fs : List Value} (ho : OwnOb φ H w ok fv (.nest ty tyI szI rows)) (hφ : fv = .tuple (fo :: fs).toArray) :
    OwnsR w 0 ty 1 fo rows.length fs ∧ (∀ (i : Nat) (r : List AV) (f : Value), rows[i]? = some r → fs[i]? = some f → RowAt w ok f tyI szI r) ∧ Apart (fo :: fs) ∧ fs.length = rows.length := by
  obtain ⟨fo', fs', e, h1, h2, h3⟩ := ho
  rw [hφ] at e
  have e' := congrArg Array.toList (Value.tuple.inj e)
  simp only [List.cons.injEq] at e'
  obtain ⟨rfl, rfl⟩ := e'
  exact ⟨h1, h2, h3, by have := h1.length; omega⟩
theorem nest_cell {ok : Nat → Prop} {H : Nat → Option OB} {ty tyI szI : Nat} {rows : List (List AV)} {g m c i : Nat} {fs : List Value} (ho : OwnOb φ H w ok (.tuple (.slice (some ⟨g, 0, none⟩) m c :: fs).toArray) (.nest ty tyI szI rows)) (hi : i < rows.length) :
    ∃ f, fs[i]? = some f ∧ CellsAt w g i [f] ∧ f.oneCell' = true := by
  obtain ⟨h1, h2, h3, hl⟩ := nest_inv ho rfl
  have hi' : i < fs.length := by omega
  have hf : fs[i]? = some fs[i] := List.getElem?_eq_getElem hi'
  refine ⟨fs[i], hf, ?_, ?_⟩
  · rcases h1.cases with ⟨h, _⟩ | ⟨g', cap, cur, h, hb, hg, hn, hm, hcs, ht⟩
    · omega
    · simp only [Value.slice.injEq, Option.some.injEq, Addr.mk.injEq] at h
      obtain ⟨⟨rfl, -, -⟩, rfl, rfl⟩ := h
      refine ⟨cur, ty, (0, 0), fs.drop (i + 1) ++ cur.toList.drop (rows.length * 1), hg, ?_⟩
      have : cur.toList = fs ++ cur.toList.drop (rows.length * 1) := by
        conv => lhs; rw [← List.take_append_drop (rows.length * 1) cur.toList]
        rw [ht]
      conv => lhs; rw [this]
      rw [List.drop_append_of_le_length (by omega), List.drop_eq_getElem_cons hi']
      rfl
  · obtain ⟨xs, hr, -⟩ := h2 i rows[i] fs[i] (List.getElem?_eq_getElem hi) hf
    obtain ⟨A, c2, e⟩ := hr.slice
    rw [e]; rfl
theorem box_cells {ok : Nat → Prop} {H : Nat → Option OB} {ty : TypeId} {cs : List AV} {g : Nat} (ho : OwnOb φ H w ok (.pointer (some ⟨g, 0, none⟩)) (.box ty cs)) (o : Nat) :
    ∃ vs, CellsAt w g o vs ∧ (∀ v ∈ vs, v.oneCell' = true) ∧ All2 (RepV φ H w ok) (cs.drop o) vs := by
  obtain ⟨g', arr, h, hg, h1, h2⟩ := ho
  simp only [Value.pointer.injEq, Option.some.injEq, Addr.mk.injEq] at h
  obtain ⟨rfl, -, -⟩ := h
  exact ⟨arr.toList.drop o, ⟨arr, ty, (0, 0), [], hg, by simp⟩, fun v hv => h1 v (List.mem_of_mem_drop hv), h2.drop o⟩
theorem ptrQ_sound (g : GamW C st φ a w) {x : AV} {xv : Value} (hx : RepV φ st.H w (okG C φ st.H) x xv) {K : List AV → Prop} (h : ptrQ st.H x K) :
    ∃ cs b o vs, K cs ∧ xv = .pointer (some ⟨b, o, none⟩) ∧ CellsAt w b o vs ∧ (∀ v ∈ vs, v.oneCell' = true) ∧ All2 (RepV φ st.H w (okG C φ st.H)) cs vs := by
  unfold ptrQ at h
  split at h
  · obtain ⟨b, o, vs, rfl, hok, hc, h1, hr⟩ := Rep.rp_inv (show Rep w (okG C φ st.H) _ xv from hx)
    exact ⟨_, b, o, vs, h, rfl, hc, h1, .of_reps hr⟩
  · obtain ⟨ty, cs, gb, hH, hφ, rfl⟩ := hx
    simp only [hH] at h
    have ho := g.own _ _ hH
    rw [hφ] at ho
    obtain ⟨vs, hc, h1, h2⟩ := box_cells ho _
    exact ⟨_, gb, _, vs, h, rfl, hc, h1, h2⟩
  · obtain ⟨ty, sz, es, gb, m, c, hH, hφ, hi, rfl⟩ := hx
    simp only [hH] at h
    obtain ⟨e, he, hK⟩ := h
    have ho := g.own _ _ hH
    rw [hφ] at ho
    obtain ⟨vs, hc, h1, h2⟩ := row_cells ho he
    exact ⟨_, gb, _, _, hK, rfl, hc.drop _, fun v hv => h1 v (List.mem_of_mem_drop hv), .of_reps (h2.drop _)⟩
  · obtain ⟨ty, tyI, szI, rows, gb, m, c, fs, hH, hφ, hi, rfl⟩ := hx
    have ho := g.own _ _ hH
    rw [hφ] at ho
    obtain ⟨f, hf, hc, h1⟩ := nest_cell ho hi
    refine ⟨_, gb, _, [f], h, rfl, hc, fun v hv => ?_, rfl, fun j x v hx hv => ?_⟩
    · obtain rfl := List.mem_singleton.1 hv; exact h1
    · cases j with
      | zero => simp at hx hv; subst hx hv; exact ⟨ty, tyI, szI, rows, _, fs, hH, hφ, hf, h1⟩
      | succ j => simp at hx
  · exact h.elim
theorem loadQ_sound (g : GamW C st φ a w) {t : TypeId} {x : AV} {xv : Value} (hx : RepV φ st.H w (okG C φ st.H) x xv) {K : AV → Prop} (h : loadQ P st.H t x K) :
    ∃ v r, K v ∧ RepV φ st.H w (okG C φ st.H) v r ∧ (Instr.loadAt t xv).run P w = .ok r w := by
  unfold loadQ at h
  cases ht : tAgg P t with
  | none => simp [ht] at h
  | some gz =>
    cases gz with
    | some n =>
      simp only [ht] at h
      obtain ⟨cs, b, o, vs, ⟨hn, hK⟩, rfl, hc, h1, h2⟩ := ptrQ_sound g hx h
      refine ⟨_, _, hK, RepV.agg (h2.take n), ?_⟩
      simpa [Instr.loadAt, Instr.sureAddr] using load_agg ht hc (by rw [h2.1]; exact hn)
    | none =>
      simp only [ht] at h
      obtain ⟨cs, b, o, vs, hK, rfl, hc, h1, h2⟩ := ptrQ_sound g hx h
      cases cs with
      | nil => exact hK.elim
      | cons c cs =>
        cases vs with
        | nil => simpa using h2.1
        | cons v vs =>
          refine ⟨c, v, hK, h2.2 0 _ _ rfl rfl, ?_⟩
          simpa [Instr.loadAt, Instr.sureAddr] using load_one ht hc
theorem equalIn_bool {t : TypeId} (hu : P.underlying t = some .bool) (d : Nat) (x y : Bool) (w : World) : (Op.equalIn (d + 1) t (.bool x) (.bool y)).run P w = .ok (x == y) w := by
  unfold Op.equalIn
  simp [run_underlying hu]
theorem equal_bool {t : TypeId} (hu : P.underlying t = some .bool) (x y : Bool) (w : World) : (Op.equal t (.bool x) (.bool y)).run P w = .ok (x == y) w := equalIn_bool hu 9999 x y w
theorem get_drop {xs : Array Value} {o : Nat} {v : Value} {vs : List Value} (h : xs.toList.drop o = v :: vs) : xs[o]? = some v ∧ xs.toList.drop (o + 1) = vs := by
  constructor
  · have := congrArg (fun l => l[0]?) h
    simpa [List.getElem?_drop] using this
  · rw [← List.drop_drop, h]; rfl
theorem eqFields_ok {ok : Nat → Prop} (d : Nat) (xs ys : Array Value) : ∀ (fs : List Field) (o : Nat) (ts : List Nat), eqTags P fs o = some ts → ∀ (as bs : List AV) (r : Bool), eqC ts as bs = some r →
    Reps w ok as (xs.toList.drop o) → Reps w ok bs (ys.toList.drop o) → (Op.eqFields (d + 1) xs ys fs).run P w = .ok r w
  | [], o, ts, ht, as, bs, r, hr, _, _ => by
    cases ht
    simp only [eqC] at hr
    cases hr
    simp [Op.eqFields]
  | f :: fs, o, ts, ht, as, bs, r, hr, ha, hb => by
    simp only [eqTags] at ht
    split at ht
    case isFalse => cases ht
    rename_i hn
    obtain ⟨hn, ho⟩ := hn
    have step : ∀ (tag : Nat) (u v : Value) (c : Bool) (ts' : List Nat) (as' bs' : List AV) (us vs : List Value) (r' : Bool), P.plainKey f.type = true → xs.toList.drop o = u :: us → ys.toList.drop o = v :: vs → Reps w ok as' us → Reps w ok bs' vs →
        eqTags P fs (o + 1) = some ts' → eqC ts' as' bs' = some r' → (Op.equalIn (d + 1) f.type u v).run P w = .ok c w → (Op.eqFields (d + 1) xs ys (f :: fs)).run P w = .ok (c && r') w := by
      intro tag u v c ts' as' bs' us vs r' hp hx hy h1 h2 h3 h4 h5
      obtain ⟨gx, dx⟩ := get_drop hx
      obtain ⟨gy, dy⟩ := get_drop hy
      have ih := eqFields_ok d xs ys fs (o + 1) ts' h3 as' bs' r' h4 (by rw [dx]; exact h1) (by rw [dy]; exact h2)
      rw [Op.eqFields]
      have p1 : (part f.type xs f.offset).run P w = .ok u w := run_part_plain w hp (by rw [ho]; exact gx)
      have p2 : (part f.type ys f.offset).run P w = .ok v w := run_part_plain w hp (by rw [ho]; exact gy)
      simp only [if_pos hn, Sem.run_bind, p1, p2, h5, Result.andThen_ok]
      cases c
      · simp
      · simpa using ih
    split at ht
    · rename_i k0 hu
      cases ht' : eqTags P fs (o + 1) with
      | none => rw [ht'] at ht; cases ht
      | some ts' =>
        rw [ht'] at ht; cases ht
        unfold eqC at hr
        split at hr
        · cases ‹(_ : List Nat) = []›
        · rename_i tt k a as' k' b bs' e
          cases e
          split at hr
          · rename_i hk
            subst hk
            cases hr' : eqC ts' as' bs' with
            | none => rw [hr'] at hr; cases hr
            | some r' =>
              rw [hr'] at hr; cases hr
              generalize hgx : xs.toList.drop o = gx at ha
              generalize hgy : ys.toList.drop o = gy at hb
              cases ha with
              | cons h1 h2 => cases hb with
                | cons h3 h4 =>
                  cases h1; cases h3
                  exact step 0 _ _ (a == b) ts' as' bs' _ _ r' (by simp [Program.plainKey, hu]) hgx hgy h2 h4 ht' hr' (run_equalIn_int w d _ _ _ _ _ hu)
          · cases hr
        · rename_i e; cases e
        · rename_i e; cases e
        · cases hr
    · rename_i hu
      cases ht' : eqTags P fs (o + 1) with
      | none => rw [ht'] at ht; cases ht
      | some ts' =>
        rw [ht'] at ht; cases ht
        unfold eqC at hr
        split at hr
        · cases ‹(_ : List Nat) = []›
        · rename_i e; cases e
        · rename_i tt a as' b bs' e
          cases e
          cases hr' : eqC ts' as' bs' with
          | none => rw [hr'] at hr; cases hr
          | some r' =>
            rw [hr'] at hr; cases hr
            generalize hgx : xs.toList.drop o = gx at ha
            generalize hgy : ys.toList.drop o = gy at hb
            cases ha with
            | cons h1 h2 => cases hb with
              | cons h3 h4 =>
                cases h1; cases h3
                exact step 1 _ _ (a.toList == b.toList) ts' as' bs' _ _ r' (by simp [Program.plainKey, hu]) hgx hgy h2 h4 ht' hr' (run_equalIn_string w d _ _ _ hu)
        · rename_i e; cases e
        · cases hr
    · rename_i hu
      cases ht' : eqTags P fs (o + 1) with
      | none => rw [ht'] at ht; cases ht
      | some ts' =>
        rw [ht'] at ht; cases ht
        unfold eqC at hr
        split at hr
        · cases ‹(_ : List Nat) = []›
        · rename_i e; cases e
        · rename_i e; cases e
        · rename_i tt a as' b bs' e
          cases e
          cases hr' : eqC ts' as' bs' with
          | none => rw [hr'] at hr; cases hr
          | some r' =>
            rw [hr'] at hr; cases hr
            generalize hgx : xs.toList.drop o = gx at ha
            generalize hgy : ys.toList.drop o = gy at hb
            cases ha with
            | cons h1 h2 => cases hb with
              | cons h3 h4 =>
                cases h1; cases h3
                exact step 2 _ _ (a == b) ts' as' bs' _ _ r' (by simp [Program.plainKey, hu]) hgx hgy h2 h4 ht' hr' (equalIn_bool hu d _ _ w)
        · cases hr
    · cases ht
theorem tEq_ok {ok : Nat → Prop} {t : TypeId} {ts : List Nat} {as bs : List AV} {r : Bool} {xs ys : List Value} (ht : tEq P t = some ts) (hr : eqC ts as bs = some r) (ha : Reps w ok as xs) (hb : Reps w ok bs ys) :
    P.eqGuardType P.depth t = false ∧ (Op.equalIn 10000 t (.agg xs.toArray) (.agg ys.toArray)).run P w = .ok r w := by
  unfold tEq at ht
  split at ht
  · rename_i fs hu
    split at ht
    · rename_i hc
      have hf : P.fieldsOf t = fs := by simp [Program.fieldsOf, hu]
      refine ⟨hc.2, ?_⟩
      rw [run_equalIn_struct (P := P) w 9999 t _ _ (by rw [hf]; exact hu) hc.1, hf]
      exact eqFields_ok 9998 _ _ fs.toList 0 ts ht as bs r hr (by simpa using ha) (by simpa using hb)
    · cases ht
  · cases ht
theorem tIfc_ok {t : TypeId} (h : tIfc P t = true) : P.underlying t = some (.interface (P.methodsAt t)) := by
  unfold tIfc at h
  split at h
  · rename_i ms hu; unfold Program.methodsAt; rw [hu]
  · cases h
theorem binQ_sound (g : GamW C st φ a w) {op : BinOp} {t : TypeId} {x y : AV} {xv yv : Value} (ox oy : Operand) (hx : RepV φ st.H w (okG C φ st.H) x xv) (hy : RepV φ st.H w (okG C φ st.H) y yv)
    {K : AV → Prop} (h : binQ P (isLitN oy) op t x y K) :
    ∃ v r, K v ∧ RepV φ st.H w (okG C φ st.H) v r ∧ (do eqGuard op t ox oy xv yv; binOp op t xv yv : Sem Value).run P w = .ok r w := by
  unfold binQ at h
  split at h
  · rename_i u z
    have ex : xv = .iface u z := by
      have h2 : Rep w (okG C φ st.H) (.s (.iface u z)) xv := hx
      cases h2; rfl
    have ey : yv = .nilIface := by
      have h2 : Rep w (okG C φ st.H) (.s .nilIface) yv := hy
      cases h2; rfl
    subst ex ey
    obtain ⟨ht, h⟩ := h
    have hu := tIfc_ok ht
    cases op <;> first | exact h.elim | skip
    · exact ⟨_, _, h.out, RepV.of (.s rfl), by simp [eqGuard, run_eql_held_nil w t u z hu]⟩
    · exact ⟨_, _, h.out, RepV.of (.s rfl), by simp [eqGuard, run_neq_held_nil w t u z hu]⟩
  · have ex : xv = .nilIface := by
      have h2 : Rep w (okG C φ st.H) (.s .nilIface) xv := hx
      cases h2; rfl
    have ey : yv = .nilIface := by
      have h2 : Rep w (okG C φ st.H) (.s .nilIface) yv := hy
      cases h2; rfl
    subst ex ey
    obtain ⟨hl, ht, h⟩ := h
    have hu := tIfc_ok ht
    have hoy : oy = .const .nilIface := by
      unfold isLitN at hl
      split at hl
      · rfl
      · cases hl
    subst hoy
    cases op <;> first | exact h.elim | skip
    · exact ⟨_, _, h.out, RepV.of (.s rfl), by simp [eqGuard, run_eql_nil_nil w t hu]⟩
    · exact ⟨_, _, h.out, RepV.of (.s rfl), by simp [eqGuard, run_neq_nil_nil w t hu]⟩
  · rename_i k n k' m
    have ex : xv = .int k n := by
      have h2 : Rep w (okG C φ st.H) (.s (.int k n)) xv := hx
      cases h2; rfl
    have ey : yv = .int k' m := by
      have h2 : Rep w (okG C φ st.H) (.s (.int k' m)) yv := hy
      cases h2; rfl
    subst ex ey
    have hg : (eqGuard op t ox oy (.int k n) (.int k' m)).run P w = .ok () w := by cases op <;> simp [eqGuard]
    obtain ⟨hk, h⟩ := h
    cases op <;> simp only [intBin] at h
    case shl => exact ⟨_, _, h.2.out, RepV.of (.s rfl), by simp [hg, binOp, Op.shift, h.1, Int.not_lt.2 h.1]⟩
    case shr => exact ⟨_, _, h.2.out, RepV.of (.s rfl), by simp [hg, binOp, Op.shift, h.1, Int.not_lt.2 h.1]⟩
    all_goals
      obtain rfl : k = k' := by simpa using hk
    case quo => exact ⟨_, _, h.2.out, RepV.of (.s rfl), by simp [hg, binOp, Op.intDiv, h.1]⟩
    case rem => exact ⟨_, _, h.2.out, RepV.of (.s rfl), by simp [hg, binOp, Op.intDiv, h.1]⟩
    all_goals exact ⟨_, _, h.out, RepV.of (.s rfl), by simp [hg, binOp, Op.intArith, Op.intBits, Op.intCmp, bitsI]⟩
  · rename_i s u
    have ex : xv = .string s := by
      have h2 : Rep w (okG C φ st.H) (.s (.string s)) xv := hx
      cases h2; rfl
    have ey : yv = .string u := by
      have h2 : Rep w (okG C φ st.H) (.s (.string u)) yv := hy
      cases h2; rfl
    subst ex ey
    have hg : (eqGuard op t ox oy (.string s) (.string u)).run P w = .ok () w := by cases op <;> simp [eqGuard]
    cases op <;> simp only [strBin] at h
    case add =>
      have hm : ¬ ((s.size + u.size : Nat) : Int) > IntKind.i64.max := by
        have : IntKind.i64.max = 9223372036854775807 := by decide
        rw [this]; have := h.1; omega
      exact ⟨_, _, h.2.out, RepV.of (.s rfl), by simp only [Sem.run_bind, hg, Result.andThen_ok, binOp, Op.stringOp]; rw [if_neg hm]; rfl⟩
    all_goals exact ⟨_, _, h.out, RepV.of (.s rfl), by simp [hg, binOp, Op.stringOp]⟩
  · rename_i s u
    have ex : xv = .bool s := by
      have h2 : Rep w (okG C φ st.H) (.s (.bool s)) xv := hx
      cases h2; rfl
    have ey : yv = .bool u := by
      have h2 : Rep w (okG C φ st.H) (.s (.bool u)) yv := hy
      cases h2; rfl
    subst ex ey
    obtain ⟨ht, h⟩ := h
    have hu : P.underlying t = some .bool := by
      unfold tIsBool at ht
      split at ht
      · assumption
      · cases ht
    cases op <;> first | exact h.elim | skip
    · exact ⟨_, _, h.out, RepV.of (.s rfl), by
        have : (binOp .eql t (.bool s) (.bool u)) = (do pure (.bool (← Op.equal t (.bool s) (.bool u))) : Sem Value) := rfl
        simp only [Sem.run_bind, this, equal_bool hu]; simp [eqGuard]⟩
    · exact ⟨_, _, h.out, RepV.of (.s rfl), by
        have : (binOp .neq t (.bool s) (.bool u)) = (do pure (.bool (!(← Op.equal t (.bool s) (.bool u)))) : Sem Value) := rfl
        simp only [Sem.run_bind, this, equal_bool hu]; simp [eqGuard]⟩
  · rename_i as bs
    obtain ⟨ts, r, hra, hrb, ht, hr, h⟩ := h
    have hx2 : Rep w (okG C φ st.H) (.agg as) xv := (RepV.ro (by simpa [isRO] using hra)).1 hx
    have hy2 : Rep w (okG C φ st.H) (.agg bs) yv := (RepV.ro (by simpa [isRO] using hrb)).1 hy
    cases hx2 with
    | agg ha => cases hy2 with
      | agg hb =>
        obtain ⟨hg, he⟩ := tEq_ok ht hr ha hb
        cases op <;> first | exact h.elim | skip
        · exact ⟨_, _, h.out, RepV.of (.s rfl), by simp only [Sem.run_bind, run_eqGuard_agg w _ _ _ _ _ _ hg, Result.andThen_ok, run_eql_struct, he]⟩
        · exact ⟨_, _, h.out, RepV.of (.s rfl), by simp only [Sem.run_bind, run_eqGuard_agg w _ _ _ _ _ _ hg, Result.andThen_ok, run_neq_struct, he]⟩
  · exact h.elim
theorem unQ_sound (g : GamW C st φ a w) {op : UnOp} {x : AV} {xv : Value} (hx : RepV φ st.H w (okG C φ st.H) x xv) {K : AV → Prop} (h : unQ op x K) :
    ∃ v r, K v ∧ RepV φ st.H w (okG C φ st.H) v r ∧ (Op.unary op xv).run P w = .ok r w := by
  unfold unQ at h
  split at h
  · rename_i k n
    have h2 : Rep w (okG C φ st.H) (.s (.int k n)) xv := hx
    cases h2
    exact ⟨_, _, h.out, RepV.of (.s rfl), by simp [Op.unary, Op.intArith]⟩
  · rename_i b
    have h2 : Rep w (okG C φ st.H) (.s (.bool b)) xv := hx
    cases h2
    exact ⟨_, _, h, RepV.of (.s rfl), by simp [Op.unary]⟩
  · exact h.elim
theorem tElem_some {t : TypeId} {e sz : Nat} (h : tElem P t = some (e, sz)) : P.underlying t = some (.slice e) ∧ ∃ i, P.info? e = some i ∧ i.size = sz := by
  unfold tElem at h
  split at h
  · rename_i e' hu
    split at h
    · rename_i i hi; cases h; exact ⟨hu, i, hi, rfl⟩
    · cases h
  · cases h
theorem tArr_some {t : TypeId} {n sz : Nat} (h : tArr P t = some (n, sz)) : ∃ e, P.underlying t = some (.array n e) ∧ ∃ i, P.info? e = some i ∧ i.size = sz := by
  unfold tArr at h
  split at h
  · rename_i n' e' hu
    split at h
    · rename_i i hi; cases h; exact ⟨e', hu, i, hi, rfl⟩
    · cases h
  · cases h
theorem lst_cells {ok : Nat → Prop} {sz : Nat} {es : List AV} {x : Value} (h : Rep w ok (.lst sz es) x) {i : Nat} {e : AV} (hi : es[i]? = some e) :
    ∃ b o c vs, x = .slice (some ⟨b, o, none⟩) es.length c ∧ ok b ∧ CellsAt w b (o + i * sz) vs ∧ (∀ v ∈ vs, v.oneCell' = true) ∧ Reps w ok (flat e) vs := by
  cases h with
  | lst0 => simp at hi
  | lst hsz hc hs hk hb hd h1 hr =>
    rename_i a c arr ty fr vs rest
    obtain ⟨b, o, sp⟩ := a
    simp only at hs hk hb hd; subst hs
    obtain ⟨rst, hrest⟩ := flats_get hsz hi
    have hr' := hr.drop (i * sz)
    rw [hrest] at hr'
    obtain ⟨as, bs, hab, ha, -⟩ := hr'.split
    have hcl : CellsAt w b o vs := ⟨arr, ty, fr, rest, hb, hd⟩
    have h3 := hcl.drop (i * sz)
    rw [hab] at h3
    obtain ⟨arr', ty', fr', rest', hb', hd'⟩ := h3
    refine ⟨b, o, c, as, rfl, hk, ⟨arr', ty', fr', bs ++ rest', hb', by rw [hd', List.append_assoc]⟩, fun v hv => h1 v (List.mem_of_mem_drop (i := i * sz) ?_), ha⟩
    rw [hab]; simp [hv]
theorem idxQ_sound (g : GamW C st φ a w) {t : TypeId} {x i : AV} {xv iv : Value} (hx : RepV φ st.H w (okG C φ st.H) x xv) (hi : RepV φ st.H w (okG C φ st.H) i iv) {K : AV → Prop} (h : idxQ P st.H t x i K) :
    ∃ v r, K v ∧ RepV φ st.H w (okG C φ st.H) v r ∧ (Instr.indexAt t xv iv).run P w = .ok r w := by
  unfold idxQ at h
  split at h
  · rename_i k n
    have h2 : Rep w (okG C φ st.H) (.s (.int k n)) iv := hi
    cases h2
    cases ht : tElem P t with
    | some esz =>
      obtain ⟨e, sz⟩ := esz
      obtain ⟨hu, i, hie, his⟩ := tElem_some ht
      simp only [ht] at h
      split at h
      · obtain ⟨rfl, h0, e', he, hK⟩ := h
        obtain ⟨b, o, c, vs, rfl, hok, hc, h1, hr⟩ := lst_cells (show Rep w (okG C φ st.H) _ xv from hx) he
        refine ⟨_, .pointer (some ⟨b, o + n.toNat * _, none⟩), hK, RepV.of (Rep.rp_mk hok hc h1 hr), ?_⟩
        have hlt : n.toNat < _ := (List.getElem?_eq_some_iff.1 he).1
        have hlt' : n < (‹List AV›.length : Int) := by omega
        simp [Instr.indexAt, asIntOf, run_underlying hu, h0, hlt', run_sizeOf' hie, his, add_none]
      · split at h
        · rename_i hh m ty sz' es hH
          obtain ⟨rfl, h0, hlt, hK⟩ := h
          obtain ⟨ty1, sz1, es1, A, m1, c, hH1, hφ, hn, rfl⟩ := hx
          rw [hH] at hH1
          cases hH1
          have ho := g.own _ _ hH
          have hA : ∃ gb, A = some ⟨gb, 0, none⟩ := by
            obtain ⟨xs, hown, -⟩ := ho
            rcases hown.cases with ⟨h, h'⟩ | ⟨g', cap, cur, h, -⟩
            · omega
            · rw [hφ] at h; cases h; exact ⟨_, rfl⟩
          obtain ⟨gb, rfl⟩ := hA
          refine ⟨_, .pointer (some ⟨gb, n.toNat * sz' + 0, none⟩), hK, ⟨_, _, _, gb, m1, c, hH, hφ, by omega, rfl⟩, ?_⟩
          simp [Instr.indexAt, asIntOf, run_underlying hu, h0, hlt, run_sizeOf' hie, his, add_none]
        · exact h.elim
      · split at h
        · rename_i hh j m _ ty sz' es hH
          obtain ⟨rfl, h0, hlt, hK⟩ := h
          obtain ⟨ty1, sz1, es1, A, m1, c, A', c', hH1, hφ, hn, rfl, hpos⟩ := hx
          rw [hH] at hH1
          cases hH1
          obtain ⟨gb, rfl, rfl, hc'⟩ := hpos (.inl (by omega))
          refine ⟨_, .pointer (some ⟨gb, (j + n.toNat) * sz' + 0, none⟩), hK, ⟨_, _, _, gb, m1, c, hH, hφ, by omega, rfl⟩, ?_⟩
          simp [Instr.indexAt, asIntOf, run_underlying hu, h0, hlt, run_sizeOf' hie, his, add_none, Nat.add_mul]
        · exact h.elim
      · obtain ⟨rfl, h0, hlt, hK⟩ := h
        obtain ⟨ty, tyI, szI, rows, fs, hH, hφ, h1c, hn⟩ := hx
        have ho := g.own _ _ hH
        obtain ⟨h1, -, -, -⟩ := nest_inv ho hφ
        rcases h1.cases with ⟨h, _⟩ | ⟨g', cap, cur, h, hb, hg, -⟩
        · omega
        · subst h
          subst hn
          refine ⟨_, .pointer (some ⟨g', n.toNat, none⟩), hK, ⟨_, _, _, _, g', _, _, fs, hH, hφ, by omega, rfl⟩, ?_⟩
          simp [Instr.indexAt, asIntOf, run_underlying hu, h0, hlt, run_sizeOf' hie, his, add_none]
      · exact h.elim
    | none =>
      simp only [ht] at h
      cases hta : tArr P t with
      | none => simp [hta] at h
      | some p =>
        obtain ⟨len, sz⟩ := p
        obtain ⟨e, hu, i, hie, his⟩ := tArr_some hta
        simp only [hta] at h
        split at h
        · obtain ⟨h0, hlt, hK⟩ := h
          obtain ⟨b, o, vs, rfl, hok, hc, h1, hr⟩ := Rep.rp_inv (show Rep w (okG C φ st.H) _ xv from hx)
          refine ⟨_, .pointer (some ⟨b, o + n.toNat * sz, none⟩), hK, RepV.of (Rep.rp_mk hok (hc.drop _) (fun v hv => h1 v (List.mem_of_mem_drop hv)) (hr.drop _)), ?_⟩
          simp [Instr.indexAt, Instr.sureAddr, asIntOf, run_underlying hu, h0, hlt, run_sizeOf' hie, his, add_none]
        · obtain ⟨h0, hlt, hK⟩ := h
          obtain ⟨ty, cs, gb, hH, hφ, rfl⟩ := hx
          refine ⟨_, .pointer (some ⟨gb, _ + n.toNat * sz, none⟩), hK, ⟨ty, cs, gb, hH, hφ, rfl⟩, ?_⟩
          simp [Instr.indexAt, Instr.sureAddr, asIntOf, run_underlying hu, h0, hlt, run_sizeOf' hie, his, add_none]
        · exact h.elim
  · exact h.elim
theorem capHs_sound {xs : List AV} {hs : List Nat} (h : capHs xs = some hs) : xs = hs.map fun k => AV.ptr k 0 := by
  induction xs generalizing hs with
  | nil => cases h; rfl
  | cons x xs ih =>
    unfold capHs at h
    split at h
    · rename_i k ks hk hks
      cases h
      have : x = .ptr k 0 := by
        unfold capH at hk
        split at hk
        · cases hk; rfl
        · cases hk
      rw [this, ih hks]; rfl
    · cases h
theorem mkFnQ_sound (g : GamW C st φ a w) {f : Nat} {caps : Array Operand} {K : AV → Prop} (h : mkFnQ f (caps.toList.map st.ev) K) :
    ∃ v, K v ∧ RepV φ st.H w (okG C φ st.H) v (.func (.func f) #[] (caps.map a.eval)) := by
  unfold mkFnQ at h
  split at h
  · rename_i hs hcs
    refine ⟨_, h, ?_⟩
    have hm := capHs_sound hcs
    have hall : ∀ (i k : Nat) (x : Operand), hs[i]? = some k → caps.toList[i]? = some x → a.eval x = φ k ∧ ∃ ty cs, st.H k = some (.box ty cs) := by
      intro i k x hk hx
      have h1 : (caps.toList.map st.ev)[i]? = some (st.ev x) := by rw [List.getElem?_map, hx]; rfl
      rw [hm, List.getElem?_map, hk] at h1
      have h2 := g.ev x
      simp only [Option.map_some, Option.some.injEq] at h1
      rw [← h1] at h2
      obtain ⟨ty, cs, gb, hH, hφ, hv⟩ := h2
      exact ⟨by rw [hv, hφ], ty, cs, hH⟩
    have hlen : hs.length = caps.toList.length := by have := congrArg List.length hm; simpa using this.symm
    refine ⟨?_, fun k hk => ?_⟩
    · congr 1
      apply Array.ext'
      simp only [Array.toList_map]
      apply List.ext_getElem?
      intro i
      rw [List.getElem?_map, List.getElem?_map]
      cases hx : caps.toList[i]? with
      | none => rw [List.getElem?_eq_none (by rw [hlen]; exact List.getElem?_eq_none_iff.1 hx)]; rfl
      | some x =>
        have hi : i < hs.length := by rw [hlen]; exact (List.getElem?_eq_some_iff.1 hx).1
        rw [List.getElem?_eq_getElem hi]
        simp [(hall i _ x (List.getElem?_eq_getElem hi) hx).1]
    · obtain ⟨i, hi, rfl⟩ := List.getElem_of_mem hk
      have hi' : i < caps.toList.length := by rw [← hlen]; exact hi
      exact (hall i _ _ (List.getElem?_eq_getElem hi) (List.getElem?_eq_getElem hi')).2
  · obtain ⟨hro, hK⟩ := h
    refine ⟨_, hK, RepV.of ?_⟩
    have h2 : All2 (RepV φ st.H w (okG C φ st.H)) (caps.toList.map st.ev) (caps.toList.map a.eval) := by
      refine ⟨by simp, fun i x v hx hv => ?_⟩
      rw [List.getElem?_map] at hx hv
      cases ho : caps.toList[i]? with
      | none => rw [ho] at hx; cases hx
      | some o => rw [ho] at hx hv; cases hx; cases hv; exact g.ev o
    have h3 := Rep.fn (f := f) (h2.reps hro)
    have e : (caps.toList.map a.eval).toArray = caps.map a.eval := by apply Array.ext'; simp
    rw [e] at h3
    exact h3
end
end Go.Proofs.Ytdnndlalflahhaa.Ev
