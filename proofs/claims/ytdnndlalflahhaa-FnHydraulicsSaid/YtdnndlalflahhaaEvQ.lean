/- Whatever order: a quiet operation that looks at no memory may be done first. -/
import Derived.Test.YtdnndlalflahhaaEvM
set_option linter.unusedVariables false
set_option linter.unusedSimpArgs false
namespace Go.Proofs.Ytdnndlalflahhaa.Ev
open Go Go.RowKit
def isMk (o : Oper) : Bool := match o.op with
  | .box _ _ => true
  | .alloc _ => true
  | .build _ _ => true
  | .buildSlice _ _ _ => true
  | .makeSlice _ _ _ => true
  | .store _ _ _ => true
  | .call c => (match c.callee with
    | .value _ => true
    | .builtin .append => true
    | .builtin .clear => true
    | _ => false)
  | .binOp .eql _ _ (.const (.slice _ _ _)) _ => true
  | _ => false
def lightB (o : Oper) : Bool := match o.op with
  | .box _ _ => true
  | .alloc _ => true
  | .build _ _ => true
  | .buildSlice _ _ _ => true
  | .makeSlice _ _ _ => true
  | .store _ _ _ => true
  | .call c => (match c.callee with
    | .value _ => true
    | _ => false)
  | _ => false
def hfreeB (o : Oper) : Bool := match o.op with
  | .move _ => true
  | .assign _ => true
  | .pick _ _ _ => true
  | .nilCheck _ => true
  | .binOp _ _ _ _ _ => true
  | .unOp _ _ _ => true
  | .fieldAddr _ _ _ => true
  | .field _ _ _ => true
  | .index _ _ _ => true
  | .extract _ _ => true
  | _ => false
def AnyT (P : Program) (l : List Oper) (Q : St → Prop) : Nat → Array Bool → St → Prop
  | 0, listed, st => Stop (Region.ready .any l.toArray listed = [] ∧ Q st)
  | f + 1, listed, st => Stop ((Region.ready .any l.toArray listed = [] → Q st) ∧ ∀ i ∈ Region.ready .any l.toArray listed, ∃ o, l[i]? = some o ∧
      ((∃ v, YA P l.toArray o v st ∧ AnyT P l Q f (listed.setIfInBounds i true) (st.put o.dst v)) ∨
       (wantedA l.toArray o st = some true ∧ isMk o = true ∧ opK P st o (AnyT P l Q f (listed.setIfInBounds i true)))))
section
variable {P : Program}
theorem AnyT_sound {C : Ctx P} {l : List Oper} (hN : dstsOk C.N l = true) {Q : St → Prop} {Q' : Exit → Act → World → Prop} (hQ : ∀ st a w, Q st → Gam C st a w → Q' .normal a w) :
    ∀ (f : Nat) (listed : Array Bool) (st : St) (a : Act) (w : World), AnyT P l Q f listed st → Gam C st a w → wpAny P .any l.toArray Q' f listed a w
  | 0, listed, st, a, w, h, g => ⟨(Stop.out h).1, hQ st a w (Stop.out h).2 g⟩
  | f + 1, listed, st, a, w, h, g => by
    have h2 := Stop.out h
    refine ⟨fun h0 => hQ st a w (h2.1 h0) g, fun i hi => ?_⟩
    obtain ⟨o, ho, hg⟩ := h2.2 i hi
    have hN1 := dstsOk_mem hN (List.mem_of_getElem? ho)
    unfold wpOp
    have ho' : l.toArray[i]? = some o := by simpa using ho
    simp only [ho']
    rcases hg with ⟨v, hy, hk⟩ | ⟨hw, -, hk'⟩
    · rcases hy with ⟨hw, hq⟩ | ⟨hw, rfl⟩
      · rw [g.wanted hw]
        simp only [if_true]
        obtain ⟨φ, g⟩ := g
        refine .inl (opQ_wp g hq fun u x w' hu hb hr => ?_)
        subst hu
        exact AnyT_sound hN hQ f _ _ _ _ hk ⟨φ, (g.quiet hb).put hr o.dst hN1⟩
      · rw [g.wanted hw]
        simp only [Bool.false_eq_true, if_false]
        exact AnyT_sound hN hQ f _ _ _ _ hk (g.put_junk o.dst hN1)
    · rw [g.wanted hw]
      simp only [if_true]
      obtain ⟨φ, g⟩ := g
      exact .inl (opK_step g hN1 hk' fun st' a' w' hK hG => AnyT_sound hN hQ f _ st' a' w' hK hG)
theorem good_any {id N : Nat} {l : List Oper} {Q : Exit → St → Prop} {st : St} (n : Nat) {listed : Array Bool} (hn : l.length = n) (hl : Array.replicate n false = listed) (hm : P.follows .mixedOrders = true) (hN : dstsOk N l = true)
    (h : AnyT P l (Q .normal) n listed st) : Good P N (.region id l.toArray true) Q st := fun C hC a w g => by
  subst hC hn hl
  have hg : Gam C st a { w with drawn := w.drawn + 1 } := by
    obtain ⟨φ, g⟩ := g
    exact ⟨φ, g.quiet ⟨rfl, rfl, rfl, Nat.le_refl _, fun _ _ => rfl⟩⟩
  have := AnyT_sound (Q' := fun e a' w' => ∃ st', Q e st' ∧ Gam C st' a' w') hN (fun s a w h g => ⟨s, h, g⟩) l.length _ st a _ h hg
  exact wp_region_any hm (by simpa using this)
/-! ### What does not look at what was put -/
theorem put_put (s : St) {d d' : Option Tmp} {v v' : AV} (h : ∀ t, d = some t → d' ≠ some t) : (s.put d v).put d' v' = (s.put d' v').put d v := by
  cases d with
  | none => rfl
  | some t => cases d' with
    | none => rfl
    | some t' =>
      have hne : t ≠ t' := fun e => h t rfl (by rw [e])
      simp only [St.put]
      congr 1
      funext k
      by_cases h1 : k = t
      · subst h1; rw [upd_ne _ _ hne, upd_same, upd_same]
      · by_cases h2 : k = t'
        · subst h2; rw [upd_same, upd_ne _ _ h1, upd_same]
        · rw [upd_ne _ _ h2, upd_ne _ _ h1, upd_ne _ _ h1, upd_ne _ _ h2]
theorem put_withH (s : St) (d : Option Tmp) (v : AV) (H' : Nat → Option OB) : ({ env := (s.put d v).env, H := H' } : St) = St.put { env := s.env, H := H' } d v := by
  cases d <;> rfl
theorem ev_put {s : St} {d : Option Tmp} {v : AV} {o : Oper} {ops : Array Oper} (h : ∀ t, d = some t → t ∉ o.looksAt ops) : ∀ x ∈ o.op.operands, (s.put d v).ev x = s.ev x := by
  intro x hx
  cases x with
  | tmp t =>
    show (s.put d v).env t = s.env t
    rw [put_env, if_neg]
    intro e
    exact h t e (by simp only [Oper.looksAt, List.mem_append, List.mem_filterMap]; exact .inl ⟨_, by simpa using hx, rfl⟩)
  | _ => rfl
theorem wanted_congr {ops : Array Oper} {st st' : St} {o : Oper} (he : ∀ t ∈ o.looksAt ops, st.env t = st'.env t) : wantedA ops o st = wantedA ops o st' := by
  unfold wantedA
  split
  · rfl
  · rename_i j want hg
    have : yieldedA ops st j = yieldedA ops st' j := by
      unfold yieldedA
      split
      · rename_i d hd
        rw [he d (by simp [Oper.looksAt, hg, hd])]
      · rfl
    have this2 : skippedA ops st j = skippedA ops st' j := by
      unfold skippedA
      split
      · rename_i d hd
        rw [he d (by simp [Oper.looksAt, hg, hd])]
      · rfl
    rw [this, this2]
theorem opQ_hfree {st : St} {o : Oper} {H' : Nat → Option OB} {K : AV → Prop} (hf : hfreeB o = true) : opQ P st o.op K = opQ P { env := st.env, H := H' } o.op K := by
  have hev : ∀ x, St.ev { env := st.env, H := H' } x = st.ev x := fun x => by cases x <;> rfl
  obtain ⟨dst, op, type, pos, aft, guard⟩ := o
  cases op <;> first
    | (simp only [opQ, opQ0, hev]; done)
    | (simp [hfreeB] at hf; done)
theorem YA_hfree {ops : Array Oper} {st st' : St} {o : Oper} {v : AV} (hf : hfreeB o = true) (he : ∀ t ∈ o.looksAt ops, st.env t = st'.env t) (h : YA P ops o v st) : YA P ops o v st' := by
  have h1 : YA P ops o v { env := st'.env, H := st.H } := YA_congr (st := st) (st' := { env := st'.env, H := st.H }) rfl he h
  have hw : wantedA ops o { env := st'.env, H := st.H } = wantedA ops o st' := wanted_congr fun t _ => rfl
  rcases h1 with ⟨h1, h2⟩ | ⟨h1, h2⟩
  · exact .inl ⟨by rw [← hw]; exact h1, by rw [opQ_hfree (H' := st'.H) hf] at h2; exact h2⟩
  · exact .inr ⟨by rw [← hw]; exact h1, h2⟩
theorem opK_frame {st : St} {o : Oper} {d : Option Tmp} {v : AV} {K K' : St → Prop} (hl : lightB o = true) (hev : ∀ x ∈ o.op.operands, (st.put d v).ev x = st.ev x) (hd : ∀ t, d = some t → o.dst ≠ some t)
    (hk : ∀ s : St, (∀ t, o.dst ≠ some t → s.env t = st.env t) → K (s.put d v) → K' s) (h : opK P (st.put d v) o K) : opK P st o K' := by
  have hH : (st.put d v).H = st.H := put_H _ _ _
  have fin : ∀ (H' : Nat → Option OB) (x : AV), K (St.put { env := (st.put d v).env, H := H' } o.dst x) →
      K' (St.put { env := st.env, H := H' } o.dst x) := fun H' x hK => by
    refine hk _ (fun t ht => by rw [put_env, if_neg ht]) ?_
    rw [put_withH, put_put _ hd] at hK
    exact hK
  clear hk
  obtain ⟨dst, op, type, pos, aft, guard⟩ := o
  simp only at hev hd fin
  unfold lightB at hl
  simp only at hl
  unfold opK at h ⊢
  simp only at h ⊢
  cases op with
  | box e x =>
    cases dst with
    | none => rcases h with h | h <;> exact h.elim
    | some t =>
      simp only [Op.operands] at hev
      have e1 := hev x (by simp)
      simp only [hH, e1] at h ⊢
      refine ⟨h.1, h.2.1, ?_⟩
      have := fin _ _ (show K (St.put { env := (st.put d v).env, H := _ } (some t) _) from by have := h.2.2; simp only [St.move, hH] at this; exact this)
      exact this
  | alloc e =>
    cases dst with
    | none => rcases h with h | h <;> exact h.elim
    | some t =>
      simp only [hH] at h ⊢
      obtain ⟨h1, h2⟩ := h
      refine ⟨h1, ?_⟩
      cases hz : zeroA P e with
      | none => rw [hz] at h2; exact h2.elim
      | some cs =>
        rw [hz] at h2
        exact fin _ _ (show K (St.put { env := (st.put d v).env, H := _ } (some t) _) from by simp only [St.move, hH] at h2; exact h2)
  | build t parts =>
    have e1 : parts.toList.map (fun p => (p.1, (st.put d v).ev p.2)) = parts.toList.map fun p => (p.1, st.ev p.2) :=
      List.map_congr_left fun p hp => by rw [hev p.2 (by simp only [Op.operands, List.mem_toArray]; exact List.mem_map.2 ⟨p, hp, rfl⟩)]
    simp only [buildQ, e1] at h ⊢
    revert h
    cases zeroA P t <;> cases placesA P t <;> first | exact id | skip
    rename_i z pl
    simp only
    cases fillA pl z (parts.toList.map fun p => (p.1, st.ev p.2)) with
    | none => exact id
    | some cs => intro h; exact fin st.H _ (by rw [← hH]; exact h)
  | buildSlice t len parts =>
    cases dst with
    | none => rcases h with h | h <;> exact h.elim
    | some t' =>
      have e1 : parts.toList.map (fun p => (st.put d v).ev p.2) = parts.toList.map fun p => st.ev p.2 :=
        List.map_congr_left fun p hp => by rw [hev p.2 (by simp only [Op.operands, List.mem_toArray]; exact List.mem_map.2 ⟨p, hp, rfl⟩)]
      simp only [litQ, e1, hH] at h ⊢
      revert h
      cases tElem P t with
      | none => exact id
      | some p =>
        simp only
        cases zeroA P p.1 with
        | none => exact id
        | some z =>
          intro h
          obtain ⟨h1, h2, h3, h4, h5, h6, h7⟩ := h
          exact ⟨h1, h2, h3, h4, h5, h6, fin _ _ (show K (St.put { env := (st.put d v).env, H := _ } (some t') _) from by simp only [St.move, hH] at h7; exact h7)⟩
  | makeSlice t x y =>
    cases dst with
    | none => rcases h with h | h <;> exact h.elim
    | some t' =>
      simp only [Op.operands] at hev
      have e1 := hev x (by simp)
      have e2 := hev y (by simp)
      simp only [e1, e2] at h ⊢
      unfold mkQ at h ⊢
      split at h
      · split at h
        · rename_i q1 q2
          obtain ⟨h1, h2, h3, h4, h5, h6, h7⟩ := h
          (try simp only [q1, q2])
          exact ⟨h1, h2, h3, h4, h5, by rw [← hH]; exact h6, fin _ _ (show K (St.put { env := (st.put d v).env, H := _ } (some t') _) from by simp only [St.move, hH] at h7; exact h7)⟩
        · exact h.elim
      · exact h.elim
  | store t x y =>
    simp only [Op.operands] at hev
    have e1 := hev x (by simp)
    have e2 := hev y (by simp)
    simp only [storeQ, e1, e2, hH] at h ⊢
    revert h
    cases P.info? t with
    | none => exact id
    | some i =>
      simp only
      rintro ⟨a1, a2, h⟩
      refine ⟨a1, a2, ?_⟩
      revert h
      cases st.ev x with
      | ptr k o =>
        simp only
        cases st.H k with
        | none => exact id
        | some ob =>
          cases ob with
          | box ty cs => rintro ⟨b1, hK⟩; exact ⟨b1, fin _ _ hK⟩
          | row => exact id
          | nest => exact id
      | eptr k i o =>
        simp only
        cases st.H k with
        | none => exact id
        | some ob =>
          cases ob with
          | row ty sz es => rintro ⟨e, b1, b2, b3, b4, hK⟩; exact ⟨e, b1, b2, b3, b4, fin _ _ hK⟩
          | box => exact id
          | nest => exact id
      | _ => exact id
  | call c =>
    obtain ⟨callee, args, ts⟩ := c
    simp only at hl
    cases callee with
    | value f =>
      have hev' : ∀ x ∈ Call.operands { callee := .value f, args := args, argTypes := ts }, (st.put d v).ev x = st.ev x := hev
      have e1 : (st.put d v).ev f = st.ev f := hev' f (by simp [Call.operands])
      have e2 : args.toList.map (st.put d v).ev = args.toList.map st.ev := List.map_congr_left fun x hx => hev' x (mem_args (c := { callee := .value f, args := args, argTypes := ts }) hx)
      simp only [callK, callQ, callXQ, callG, e1, e2, hH] at h ⊢
      rcases h with h | ⟨gf, caps, as, σ, pre, τ, R, post, r, conv, h1, h2, h3, h4, h5, h6, h7⟩
      · left
        revert h
        split
        · rintro ⟨r, h1, h2, h3⟩
          exact ⟨r, h1, h2, fin st.H r (by rw [← hH]; exact h3)⟩
        · exact id
      · exact .inr ⟨gf, caps, as, σ, pre, τ, R, post, r, conv, h1, h2, h3, h4, ⟨by rw [← hH]; exact h5.pre1, h5.nodup, h5.refs, h5.refsO⟩,
          fun x hx => ⟨(h6 x hx).shape, by rw [← hH]; exact (h6 x hx).fresh, (h6 x hx).nodup, (h6 x hx).pure⟩, fun x hx => fin _ _ (h7 x hx)⟩
    | _ => cases hl
  | _ => cases hl
/-! ### First -/
def pairB (ops : Array Oper) (oi oj : Oper) : Bool := oi.apart ops oj && (!isMk oj || (lightB oj && hfreeB oi))
def closedB (l : List Oper) (listed : Array Bool) : Bool := (List.range l.length).all fun j => !listed.getD j false || match l[j]? with
  | some o => (afterOf o).all fun e => listed.getD e false
  | none => true
def firstB (l : List Oper) (listed : Array Bool) (i : Nat) : Bool := decide (listed.size = l.length) && (Region.ready .any l.toArray listed).contains i && closedB l listed &&
  (List.range l.length).all fun j => j == i || listed.getD j false || reach l l.length j i || match l[i]?, l[j]? with
    | some oi, some oj => pairB l.toArray oi oj
    | _, _ => true
theorem closedB_spec {l : List Oper} {listed : Array Bool} (h : closedB l listed = true) : Closed l fun j => listed.getD j false := by
  intro j oj hj hS e he
  have := List.all_eq_true.1 h j (List.mem_range.2 (List.getElem?_eq_some_iff.1 hj).1)
  simp only [hj, Bool.or_eq_true, Bool.not_eq_true', List.all_eq_true] at this
  rcases this with h1 | h1
  · simp only [hS] at h1; cases h1
  · exact h1 e he
theorem any_first {l : List Oper} {Q : St → Prop} {i : Nat} {oi : Oper} {v : AV} (hi : l[i]? = some oi) :
    ∀ (f : Nat) (listed : Array Bool) (st : St), listed.size = l.length → (Closed l fun j => listed.getD j false) → i ∈ Region.ready .any l.toArray listed →
      (∀ j oj, l[j]? = some oj → j ≠ i → listed.getD j false = false → reach l l.length j i = true ∨ pairB l.toArray oi oj = true) →
      YA P l.toArray oi v st → AnyT P l Q f (listed.setIfInBounds i true) (st.put oi.dst v) → AnyT P l Q (f + 1) listed st := by
  intro f
  induction f with
  | zero =>
    intro listed st hs hc hr hside hy h
    obtain ⟨h0, hQ⟩ := Stop.out h
    refine ⟨fun h1 => by rw [h1] at hr; simp at hr, fun j hj => ?_⟩
    obtain ⟨hun, oj, hoj, hall⟩ := mem_ready.1 hj
    have hoj' : l[j]? = some oj := by simpa using hoj
    by_cases e : j = i
    · subst e
      have : oj = oi := by rw [hi] at hoj'; exact (Option.some.inj hoj').symm
      subst this
      exact ⟨oj, hi, .inl ⟨v, hy, h⟩⟩
    · exfalso
      have hil : i < l.length := (List.getElem?_eq_some_iff.1 hi).1
      have hjl : j < l.length := (List.getElem?_eq_some_iff.1 hoj').1
      have : j ∈ Region.ready .any l.toArray (listed.setIfInBounds i true) := mem_ready.2 ⟨by rw [getD_sz (by simpa using hs) hjl true false, set_getD hs hil, if_neg e, ← getD_sz hs hjl true false]; exact hun, oj, hoj, fun e' he' hb => by
        rw [set_getD hs hil]; split
        · rfl
        · exact hall e' he' hb⟩
      rw [h0] at this; simp at this
  | succ f ih =>
    intro listed st hs hc hr hside hy h
    have h2 := Stop.out h
    refine ⟨fun h1 => by rw [h1] at hr; simp at hr, fun j hj => ?_⟩
    obtain ⟨hun, oj, hoj, hall⟩ := mem_ready.1 hj
    have hoj' : l[j]? = some oj := by simpa using hoj
    by_cases e : j = i
    · subst e
      have : oj = oi := by rw [hi] at hoj'; exact (Option.some.inj hoj').symm
      subst this
      exact ⟨oj, hi, .inl ⟨v, hy, h⟩⟩
    · have hil : i < l.length := (List.getElem?_eq_some_iff.1 hi).1
      have hjl : j < l.length := (List.getElem?_eq_some_iff.1 hoj').1
      have hju : listed.getD j false = false := by rw [← getD_sz hs hjl true false]; exact hun
      obtain ⟨hiu, oi', hoi', hiall⟩ := mem_ready.1 hr
      have hiu' : listed.getD i false = false := by rw [← getD_sz hs hil true false]; exact hiu
      have hjr : j ∈ Region.ready .any l.toArray (listed.setIfInBounds i true) := mem_ready.2 ⟨by rw [getD_sz (by simpa using hs) hjl true false, set_getD hs hil, if_neg e]; exact hju, oj, hoj, fun e' he' hb => by
        rw [set_getD hs hil]; split
        · rfl
        · exact hall e' he' hb⟩
      have hir : i ∈ Region.ready .any l.toArray (listed.setIfInBounds j true) := mem_ready.2 ⟨by rw [getD_sz (by simpa using hs) hil true false, set_getD hs hjl, if_neg (Ne.symm e)]; exact hiu', oi', hoi', fun e' he' hb => by
        rw [set_getD hs hjl]; split
        · rfl
        · exact hiall e' he' hb⟩
      have hpair : pairB l.toArray oi oj = true := by
        rcases hside j oj hoj' e hju with h3 | h3
        · exfalso
          have := reach_closed hc _ _ _ h3 fun oj2 hoj2 e' he' => by
            rw [hoj'] at hoj2; cases hoj2
            obtain ⟨e2, he2, hb, rfl⟩ := mem_afterOf.1 he'
            exact hall e2 he2 hb
          simp only [hiu'] at this; cases this
        · exact h3
      obtain ⟨hap, hmk⟩ : oi.apart l.toArray oj = true ∧ (isMk oj = false ∨ (lightB oj = true ∧ hfreeB oi = true)) := by
        unfold pairB at hpair
        simpa [Bool.and_eq_true, Bool.or_eq_true] using hpair
      obtain ⟨a1, a2, a3⟩ := Oper.apart_spec hap
      have hcomm : (listed.setIfInBounds i true).setIfInBounds j true = (listed.setIfInBounds j true).setIfInBounds i true := by
        apply Array.ext_getElem?
        intro k
        simp only [Array.getElem?_setIfInBounds, Array.size_setIfInBounds]
        by_cases h1 : i = k <;> by_cases h2 : j = k <;> simp [h1, h2]
      have hs' : (listed.setIfInBounds j true).size = l.length := by simpa using hs
      have hside' : ∀ k ok, l[k]? = some ok → k ≠ i → (listed.setIfInBounds j true).getD k false = false → reach l l.length k i = true ∨ pairB l.toArray oi ok = true := fun k ok hk hki hku => by
        rw [set_getD hs hjl] at hku
        split at hku
        · cases hku
        · exact hside k ok hk hki hku
      obtain ⟨o2, ho2, hstep⟩ := h2.2 j hjr
      have : o2 = oj := by rw [hoj'] at ho2; exact (Option.some.inj ho2).symm
      subst this
      refine ⟨o2, hoj', ?_⟩
      rw [hcomm] at hstep
      rcases hstep with ⟨u, hyu, hk⟩ | ⟨hw, hm, hk⟩
      · left
        refine ⟨u, YA_congr (put_H _ _ _) (fun t ht => by rw [put_env, if_neg (fun e => a1 t e ht)]) hyu, ?_⟩
        refine ih _ _ hs' (closed_set hs hc hj) hir hside' (YA_congr (put_H _ _ _).symm (fun t ht => by rw [put_env, if_neg (fun e => a3 t e ht)]) hy) ?_
        rw [put_put _ a2] at hk
        exact hk
      · right
        rcases hmk with h3 | ⟨h3, h4⟩
        · rw [h3] at hm; cases hm
        · refine ⟨by rw [← hw]; exact wanted_congr fun t ht => by rw [put_env, if_neg (fun e => a1 t e ht)], hm, ?_⟩
          refine opK_frame h3 (ev_put (ops := l.toArray) a1) a2 (fun s hs2 hk2 => ?_) hk
          exact ih _ _ hs' (closed_set hs hc hj) hir hside' (YA_hfree h4 (fun t ht => (hs2 t fun e => a3 t e ht).symm) hy) hk2
def hfreeS (st : St) (o : Oper) : Bool := match o.op with
  | .indexAddr _ x _ => (match st.ev x with
    | .lst _ _ => true
    | _ => false)
  | .load _ x => (match st.ev x with
    | .rp _ => true
    | _ => false)
  | _ => false
theorem ev_of {ops : Array Oper} {st st' : St} {o : Oper} (he : ∀ t ∈ o.looksAt ops, st.env t = st'.env t) : ∀ x ∈ o.op.operands, st.ev x = st'.ev x := by
  intro x hx
  cases x with
  | tmp t => exact he t (by simp only [Oper.looksAt, List.mem_append, List.mem_filterMap]; exact .inl ⟨_, by simpa using hx, rfl⟩)
  | _ => rfl
theorem hfreeS_congr {ops : Array Oper} {st st' : St} {o : Oper} (he : ∀ t ∈ o.looksAt ops, st.env t = st'.env t) : hfreeS st o = hfreeS st' o := by
  have hev := ev_of he
  obtain ⟨dst, op, type, pos, aft, guard⟩ := o
  unfold hfreeS
  cases op <;> first
    | rfl
    | skip
  case load t x =>
    simp only [Op.operands] at hev
    have e := hev x (by simp)
    simp only [e]
  case indexAddr t x y =>
    simp only [Op.operands] at hev
    have e := hev x (by simp)
    simp only [e]
theorem opQ_hfreeS {st : St} {o : Oper} {H' : Nat → Option OB} {K : AV → Prop} (hf : hfreeS st o = true) : opQ P st o.op K = opQ P { env := st.env, H := H' } o.op K := by
  have hev : ∀ x, St.ev { env := st.env, H := H' } x = st.ev x := fun x => by cases x <;> rfl
  obtain ⟨dst, op, type, pos, aft, guard⟩ := o
  unfold hfreeS at hf
  cases op <;> first
    | (cases hf; done)
    | skip
  case load t x =>
    simp only at hf
    split at hf
    · rename_i cs hx
      simp only [opQ, opQ0, hev, hx, loadQ, ptrQ]
    · cases hf
  case indexAddr t x y =>
    simp only at hf
    split at hf
    · rename_i sz es hx
      simp only [opQ, opQ0, hev, hx, idxQ]
    · cases hf
theorem YA_hfreeS {ops : Array Oper} {st st' : St} {o : Oper} {v : AV} (hf : hfreeS st o = true) (he : ∀ t ∈ o.looksAt ops, st.env t = st'.env t) (h : YA P ops o v st) : YA P ops o v st' := by
  have h1 : YA P ops o v { env := st'.env, H := st.H } := YA_congr (st := st) (st' := { env := st'.env, H := st.H }) rfl he h
  have hf' : hfreeS { env := st'.env, H := st.H } o = true := by rw [← hfreeS_congr (ops := ops) (st := st) (st' := { env := st'.env, H := st.H }) he]; exact hf
  have hw : wantedA ops o { env := st'.env, H := st.H } = wantedA ops o st' := wanted_congr fun t _ => rfl
  rcases h1 with ⟨h1, h2⟩ | ⟨h1, h2⟩
  · exact .inl ⟨by rw [← hw]; exact h1, by rw [opQ_hfreeS (H' := st'.H) hf'] at h2; exact h2⟩
  · exact .inr ⟨by rw [← hw]; exact h1, h2⟩
def pairS (ops : Array Oper) (oi oj : Oper) : Bool := oi.apart ops oj && (!isMk oj || lightB oj)
def firstS (l : List Oper) (listed : Array Bool) (i : Nat) : Bool := decide (listed.size = l.length) && (Region.ready .any l.toArray listed).contains i && closedB l listed &&
  (List.range l.length).all fun j => j == i || listed.getD j false || reach l l.length j i || match l[i]?, l[j]? with
    | some oi, some oj => pairS l.toArray oi oj
    | _, _ => true
theorem any_firstS {l : List Oper} {Q : St → Prop} {i : Nat} {oi : Oper} {v : AV} (hi : l[i]? = some oi) :
    ∀ (f : Nat) (listed : Array Bool) (st : St), listed.size = l.length → (Closed l fun j => listed.getD j false) → i ∈ Region.ready .any l.toArray listed →
      (∀ j oj, l[j]? = some oj → j ≠ i → listed.getD j false = false → reach l l.length j i = true ∨ pairS l.toArray oi oj = true) →
      hfreeS st oi = true → YA P l.toArray oi v st → AnyT P l Q f (listed.setIfInBounds i true) (st.put oi.dst v) → AnyT P l Q (f + 1) listed st := by
  intro f
  induction f with
  | zero =>
    intro listed st hs hc hr hside hS hy h
    obtain ⟨h0, hQ⟩ := Stop.out h
    refine ⟨fun h1 => by rw [h1] at hr; simp at hr, fun j hj => ?_⟩
    obtain ⟨hun, oj, hoj, hall⟩ := mem_ready.1 hj
    have hoj' : l[j]? = some oj := by simpa using hoj
    by_cases e : j = i
    · subst e
      have : oj = oi := by rw [hi] at hoj'; exact (Option.some.inj hoj').symm
      subst this
      exact ⟨oj, hi, .inl ⟨v, hy, h⟩⟩
    · exfalso
      have hil : i < l.length := (List.getElem?_eq_some_iff.1 hi).1
      have hjl : j < l.length := (List.getElem?_eq_some_iff.1 hoj').1
      have : j ∈ Region.ready .any l.toArray (listed.setIfInBounds i true) := mem_ready.2 ⟨by rw [getD_sz (by simpa using hs) hjl true false, set_getD hs hil, if_neg e, ← getD_sz hs hjl true false]; exact hun, oj, hoj, fun e' he' hb => by
        rw [set_getD hs hil]; split
        · rfl
        · exact hall e' he' hb⟩
      rw [h0] at this; simp at this
  | succ f ih =>
    intro listed st hs hc hr hside hS hy h
    have h2 := Stop.out h
    refine ⟨fun h1 => by rw [h1] at hr; simp at hr, fun j hj => ?_⟩
    obtain ⟨hun, oj, hoj, hall⟩ := mem_ready.1 hj
    have hoj' : l[j]? = some oj := by simpa using hoj
    by_cases e : j = i
    · subst e
      have : oj = oi := by rw [hi] at hoj'; exact (Option.some.inj hoj').symm
      subst this
      exact ⟨oj, hi, .inl ⟨v, hy, h⟩⟩
    · have hil : i < l.length := (List.getElem?_eq_some_iff.1 hi).1
      have hjl : j < l.length := (List.getElem?_eq_some_iff.1 hoj').1
      have hju : listed.getD j false = false := by rw [← getD_sz hs hjl true false]; exact hun
      obtain ⟨hiu, oi', hoi', hiall⟩ := mem_ready.1 hr
      have hiu' : listed.getD i false = false := by rw [← getD_sz hs hil true false]; exact hiu
      have hjr : j ∈ Region.ready .any l.toArray (listed.setIfInBounds i true) := mem_ready.2 ⟨by rw [getD_sz (by simpa using hs) hjl true false, set_getD hs hil, if_neg e]; exact hju, oj, hoj, fun e' he' hb => by
        rw [set_getD hs hil]; split
        · rfl
        · exact hall e' he' hb⟩
      have hir : i ∈ Region.ready .any l.toArray (listed.setIfInBounds j true) := mem_ready.2 ⟨by rw [getD_sz (by simpa using hs) hil true false, set_getD hs hjl, if_neg (Ne.symm e)]; exact hiu', oi', hoi', fun e' he' hb => by
        rw [set_getD hs hjl]; split
        · rfl
        · exact hiall e' he' hb⟩
      have hpair : pairS l.toArray oi oj = true := by
        rcases hside j oj hoj' e hju with h3 | h3
        · exfalso
          have := reach_closed hc _ _ _ h3 fun oj2 hoj2 e' he' => by
            rw [hoj'] at hoj2; cases hoj2
            obtain ⟨e2, he2, hb, rfl⟩ := mem_afterOf.1 he'
            exact hall e2 he2 hb
          simp only [hiu'] at this; cases this
        · exact h3
      obtain ⟨hap, hmk⟩ : oi.apart l.toArray oj = true ∧ (isMk oj = false ∨ lightB oj = true) := by
        unfold pairS at hpair
        simpa [Bool.and_eq_true, Bool.or_eq_true] using hpair
      obtain ⟨a1, a2, a3⟩ := Oper.apart_spec hap
      have hcomm : (listed.setIfInBounds i true).setIfInBounds j true = (listed.setIfInBounds j true).setIfInBounds i true := by
        apply Array.ext_getElem?
        intro k
        simp only [Array.getElem?_setIfInBounds, Array.size_setIfInBounds]
        by_cases h1 : i = k <;> by_cases h2 : j = k <;> simp [h1, h2]
      have hs' : (listed.setIfInBounds j true).size = l.length := by simpa using hs
      have hside' : ∀ k ok, l[k]? = some ok → k ≠ i → (listed.setIfInBounds j true).getD k false = false → reach l l.length k i = true ∨ pairS l.toArray oi ok = true := fun k ok hk hki hku => by
        rw [set_getD hs hjl] at hku
        split at hku
        · cases hku
        · exact hside k ok hk hki hku
      obtain ⟨o2, ho2, hstep⟩ := h2.2 j hjr
      have : o2 = oj := by rw [hoj'] at ho2; exact (Option.some.inj ho2).symm
      subst this
      refine ⟨o2, hoj', ?_⟩
      rw [hcomm] at hstep
      rcases hstep with ⟨u, hyu, hk⟩ | ⟨hw, hm, hk⟩
      · left
        refine ⟨u, YA_congr (put_H _ _ _) (fun t ht => by rw [put_env, if_neg (fun e => a1 t e ht)]) hyu, ?_⟩
        refine ih _ _ hs' (closed_set hs hc hj) hir hside' (by rw [← hfreeS_congr (ops := l.toArray) (st := st) fun t ht => by rw [put_env, if_neg (fun e => a3 t e ht)]]; exact hS) (YA_congr (put_H _ _ _).symm (fun t ht => by rw [put_env, if_neg (fun e => a3 t e ht)]) hy) ?_
        rw [put_put _ a2] at hk
        exact hk
      · right
        rcases hmk with h3 | h3
        · rw [h3] at hm; cases hm
        · refine ⟨by rw [← hw]; exact wanted_congr fun t ht => by rw [put_env, if_neg (fun e => a1 t e ht)], hm, ?_⟩
          refine opK_frame h3 (ev_put (ops := l.toArray) a1) a2 (fun s hs2 hk2 => ?_) hk
          exact ih _ _ hs' (closed_set hs hc hj) hir hside' (by rw [← hfreeS_congr (ops := l.toArray) (st := st) fun t ht => (hs2 t fun e => a3 t e ht).symm]; exact hS) (YA_hfreeS hS (fun t ht => (hs2 t fun e => a3 t e ht).symm) hy) hk2
structure OneT (P : Program) (l : List Oper) (Q : St → Prop) (f : Nat) (listed : Array Bool) (st : St) (i : Nat) : Prop where
  out : ∃ o, l[i]? = some o ∧ ((∃ v, YA P l.toArray o v st ∧ AnyT P l Q f (listed.setIfInBounds i true) (st.put o.dst v)) ∨
       (wantedA l.toArray o st = some true ∧ isMk o = true ∧ opK P st o (AnyT P l Q f (listed.setIfInBounds i true))))
def AnyLT (P : Program) (l : List Oper) (Q : St → Prop) (f : Nat) (listed : Array Bool) (st : St) : List Nat → Prop
  | [] => True
  | i :: L => OneT P l Q f listed st i ∧ AnyLT P l Q f listed st L
theorem AnyLT_mem {l : List Oper} {Q : St → Prop} {f : Nat} {listed : Array Bool} {st : St} : ∀ {L : List Nat}, AnyLT P l Q f listed st L → ∀ i ∈ L, OneT P l Q f listed st i
  | i :: L, h, j, hj => by
    rcases List.mem_cons.1 hj with e | e
    · subst e; exact h.1
    · exact AnyLT_mem h.2 j e
section
variable {l : List Oper} {Q : St → Prop} {f i : Nat} {listed listed' : Array Bool} {st : St} {o : Oper}
theorem tn_end (hr : Region.ready .any l.toArray listed = []) (h : Q st) : AnyT P l Q 0 listed st := ⟨⟨hr, h⟩⟩
theorem tn_step (L : List Nat) (hr : Region.ready .any l.toArray listed = L) (hne : L.isEmpty = false) (h : AnyLT P l Q f listed st L) : AnyT P l Q (f + 1) listed st :=
  ⟨⟨(fun h0 => by rw [h0] at hr; subst hr; cases hne), fun i hi => (AnyLT_mem h i (hr ▸ hi)).out⟩⟩
theorem tn_k (hl : listed.setIfInBounds i true = listed') (ho : l[i]? = some o) (hm : isMk o = true) (hg : wantedA l.toArray o st = some true) (h : OpK P st o (AnyT P l Q f listed')) : OneT P l Q f listed st i := by
  subst hl
  exact ⟨o, ho, .inr ⟨hg, hm, h.out⟩⟩
theorem tn_q (hl : listed.setIfInBounds i true = listed') (ho : l[i]? = some o) (hg : wantedA l.toArray o st = some true) (h : OpQ P st o.op fun v => AnyT P l Q f listed' (st.put o.dst v)) : OneT P l Q f listed st i := by
  subst hl
  obtain ⟨v, h1, h2⟩ := opQ_ex h.out
  exact ⟨o, ho, .inl ⟨v, .inl ⟨hg, h2⟩, h1⟩⟩
theorem tn_skip (hl : listed.setIfInBounds i true = listed') (ho : l[i]? = some o) (hg : wantedA l.toArray o st = some false) (h : AnyT P l Q f listed' (st.put o.dst (.tup []))) : OneT P l Q f listed st i := by
  subst hl
  exact ⟨o, ho, .inl ⟨_, .inr ⟨hg, rfl⟩, h⟩⟩
theorem first_of (hb : firstB l listed i = true) (ho : l[i]? = some o) {v : AV} (hy : YA P l.toArray o v st) (h : AnyT P l Q f (listed.setIfInBounds i true) (st.put o.dst v)) : AnyT P l Q (f + 1) listed st := by
  simp only [firstB, Bool.and_eq_true, decide_eq_true_eq, List.all_eq_true, List.mem_range, Bool.or_eq_true, List.contains_iff_mem, beq_iff_eq] at hb
  obtain ⟨⟨⟨h1, h2⟩, h3⟩, h4⟩ := hb
  refine any_first ho f listed st h1 (closedB_spec h3) h2 (fun j oj hj hne hu => ?_) hy h
  rcases h4 j (List.getElem?_eq_some_iff.1 hj).1 with ((h5 | h5) | h5) | h5
  · exact (hne h5).elim
  · rw [hu] at h5; cases h5
  · exact .inl h5
  · simp only [ho, hj] at h5; exact .inr h5
theorem tn_first_q (hl : listed.setIfInBounds i true = listed') (ho : l[i]? = some o) (hb : firstB l listed i = true) (hg : wantedA l.toArray o st = some true) (h : OpQ P st o.op fun v => AnyT P l Q f listed' (st.put o.dst v)) : AnyT P l Q (f + 1) listed st := by
  subst hl
  obtain ⟨v, h1, h2⟩ := opQ_ex h.out
  exact first_of hb ho (.inl ⟨hg, h2⟩) h1
theorem tn_firstS_q (hl : listed.setIfInBounds i true = listed') (ho : l[i]? = some o) (hb : firstS l listed i = true) (hS : hfreeS st o = true) (hg : wantedA l.toArray o st = some true) (h : OpQ P st o.op fun v => AnyT P l Q f listed' (st.put o.dst v)) : AnyT P l Q (f + 1) listed st := by
  subst hl
  obtain ⟨v, h1, h2⟩ := opQ_ex h.out
  simp only [firstS, Bool.and_eq_true, decide_eq_true_eq, List.all_eq_true, List.mem_range, Bool.or_eq_true, List.contains_iff_mem, beq_iff_eq] at hb
  obtain ⟨⟨⟨b1, b2⟩, b3⟩, b4⟩ := hb
  refine any_firstS ho f listed st b1 (closedB_spec b3) b2 (fun j oj hj hne hu => ?_) hS (.inl ⟨hg, h2⟩) h1
  rcases b4 j (List.getElem?_eq_some_iff.1 hj).1 with ((h5 | h5) | h5) | h5
  · exact (hne h5).elim
  · rw [hu] at h5; cases h5
  · exact .inl h5
  · simp only [ho, hj] at h5; exact .inr h5
theorem tn_first_skip (hl : listed.setIfInBounds i true = listed') (ho : l[i]? = some o) (hb : firstB l listed i = true) (hg : wantedA l.toArray o st = some false) (h : AnyT P l Q f listed' (st.put o.dst (.tup []))) : AnyT P l Q (f + 1) listed st := by
  subst hl
  exact first_of hb ho (.inr ⟨hg, rfl⟩) h
end
end
end Go.Proofs.Ytdnndlalflahhaa.Ev
