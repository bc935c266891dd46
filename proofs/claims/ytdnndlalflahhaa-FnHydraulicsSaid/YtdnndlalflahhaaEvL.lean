/- Code: rules for statements one behind the other, branches, loops; a function's answer from its code. -/
import Derived.Test.YtdnndlalflahhaaEvK
set_option linter.unusedVariables false
set_option linter.unusedSimpArgs false
namespace Go.Proofs.Ytdnndlalflahhaa.Ev
open Go Go.RowKit
def Good (P : Program) (N : Nat) (c : Code) (Q : Exit → St → Prop) (st : St) : Prop :=
  ∀ (C : Ctx P), C.N = N → ∀ a w, Gam C st a w → c.wp P (fun e a' w' => ∃ st', Q e st' ∧ Gam C st' a' w') a w
def Sub (N : Nat) (st st' : St) : Prop := ∀ {P : Program} (C : Ctx P), C.N = N → ∀ a w, Gam C st a w → Gam C st' a w
section
variable {P : Program} {N : Nat} {Q : Exit → St → Prop} {st st' : St}
theorem Sub.refl (N : Nat) (st : St) : Sub N st st := fun _ _ _ _ h => h
theorem Sub.trans {s1 s2 s3 : St} (h : Sub N s1 s2) (k : Sub N s2 s3) : Sub N s1 s3 := fun C hC a w g => k C hC a w (h C hC a w g)
theorem good_weak {c : Code} (h : Sub N st st') (k : Good P N c Q st') : Good P N c Q st := fun C hC a w g => k C hC a w (h C hC a w g)
theorem good_mono {c : Code} {Q' : Exit → St → Prop} (h : Good P N c Q' st) (hq : ∀ e s, Q' e s → Q e s) : Good P N c Q st := fun C hC a w g =>
  wp_mono (h C hC a w g) fun e _ _ ⟨s, h1, h2⟩ => ⟨s, hq e s h1, h2⟩
theorem good_skip (h : Q .normal st) : Good P N .skip Q st := fun _ _ _ _ g => wp_skip ⟨st, h, g⟩
theorem good_exit {id : Nat} (h : Q (.exit id) st) : Good P N (.exit id) Q st := fun _ _ _ _ g => wp_exit ⟨st, h, g⟩
theorem good_ret (h : Q .ret st) : Good P N .ret Q st := fun _ _ _ _ g => wp_ret ⟨st, h, g⟩
def thenQ (K : St → Prop) (Q : Exit → St → Prop) : Exit → St → Prop
  | .normal, s => K s
  | e, s => Q e s
theorem good_seq {x y : Code} (h : ∀ K : St → Prop, (∀ s, Good P N y Q s → K s) → Good P N x (thenQ K Q) st) : Good P N (.seq x y) Q st := fun C hC a w g => by
  refine wp_seq (wp_mono (h (Good P N y Q) (fun _ h => h) C hC a w g) ?_)
  intro e a' w' ⟨s, h1, h2⟩
  cases e with
  | normal => exact h1 C hC a' w' h2
  | _ => exact ⟨s, h1, h2⟩
theorem good_cond {c : Operand} {x y : Code} {b : Bool} (hc : st.ev c = .s (.bool b)) (ht : b = true → Good P N x Q st) (hf : b = false → Good P N y Q st) : Good P N (.cond c x y) Q st := fun C hC a w g => by
  have hv : a.eval c = .bool b := by
    obtain ⟨φ, g⟩ := g
    have := g.ev c
    rw [hc] at this
    exact inv_s this
  cases b with
  | true => exact wp_cond_true hv (ht rfl C hC a w g)
  | false => exact wp_cond_false hv (hf rfl C hC a w g)
def blockQ (id : Nat) (Q : Exit → St → Prop) : Exit → St → Prop
  | .exit id', s => if id' = id then Q .normal s else Q (.exit id') s
  | e, s => Q e s
theorem good_block {id : Nat} {c : Code} (h : Good P N c (blockQ id Q) st) : Good P N (.block id c) Q st := fun C hC a w g => by
  refine wp_block (wp_mono (h C hC a w g) ?_)
  intro e a' w' ⟨s, h1, h2⟩
  cases e with
  | exit id' =>
    simp only [blockQ] at h1
    simp only [Exit.inBlock]
    split at h1
    · rename_i e; rw [if_pos e]; exact ⟨s, h1, h2⟩
    · rename_i e; rw [if_neg e]; exact ⟨s, h1, h2⟩
  | _ => exact ⟨s, h1, h2⟩
theorem good_region {id : Nat} {l : List Oper} (hN : dstsOk N l = true) (h : EVops P l.toArray (Q .normal) l st) : Good P N (.region id l.toArray false) Q st := fun C hC a w g => by
  subst hC
  exact wp_region_lit (EVops_sound (Q' := fun e a' w' => ∃ st', Q e st' ∧ Gam C st' a' w') (fun s a w h g => ⟨s, h, g⟩) l st a w hN h g)
theorem good_draw {id : Nat} {l : List Oper} (m : Nat) (hm : P.follows .mixedOrders = true) (hd : drawOk l m = true) (hN : dstsOk N l = true)
    (h : QOps P l.toArray (EVops P l.toArray (Q .normal) (l.drop m)) (l.take m) st) : Good P N (.region id l.toArray true) Q st := fun C hC a w g => by
  subst hC
  obtain ⟨ps, h1, h2, h3⟩ := QOps_run _ _ h
  have hg : Gam C (stS st ps fun j => (Array.replicate l.toArray.size false).getD j false) a { w with drawn := w.drawn + 1 } := by
    have hnone : ∀ (r : List (Oper × AV)) (st : St), (stS st r fun _ => false) = st := by
      intro r
      induction r with
      | nil => intro st; rfl
      | cons p r ih => intro st; obtain ⟨p1, p2⟩ := p; simp only [stS]; exact ih st
    have e : (fun j => (Array.replicate l.toArray.size false).getD j false) = fun _ : Nat => false := by
      funext j
      simp only [Array.getD_eq_getD_getElem?, Array.getElem?_replicate]
      split <;> rfl
    rw [e, hnone]
    obtain ⟨φ, g⟩ := g
    exact ⟨φ, g.quiet ⟨rfl, rfl, rfl, Nat.le_refl _, fun _ _ => rfl⟩⟩
  refine wp_region_any hm (head_sound (drawOk_spec hd) hN (Q' := fun e a' w' => ∃ st', Q e st' ∧ Gam C st' a' w') (fun s a w h g => ⟨s, h, g⟩) h1 h2 h3 _ _ _ _ ?_ (by simp) (fun i _ => ?_) ?_ hg)
  · have : ∀ n, (List.range n).countP (fun k => !(Array.replicate l.toArray.size false).getD k false) = n := by
      intro n
      have e : ∀ k, (Array.replicate l.toArray.size false).getD k false = false := by
        intro j
        simp only [Array.getD_eq_getD_getElem?, Array.getElem?_replicate]
        split <;> rfl
      rw [List.countP_eq_length.2 (fun k _ => by rw [e]; rfl)]
      simp
    rw [this]; simp
  · simp only [Array.getD_eq_getD_getElem?, Array.getElem?_replicate]
    split <;> rfl
  · intro j oj _ hS
    simp only [Array.getD_eq_getD_getElem?, Array.getElem?_replicate] at hS
    split at hS <;> cases hS
def AnyS (P : Program) (l : List Oper) (Q : St → Prop) : Nat → Array Bool → St → Prop
  | 0, listed, st => Stop (Region.ready .any l.toArray listed = [] ∧ Q st)
  | f + 1, listed, st => Stop ((Region.ready .any l.toArray listed = [] → Q st) ∧ ∀ i ∈ Region.ready .any l.toArray listed, ∃ o, l[i]? = some o ∧
      guardA l.toArray o st (opK P st o (AnyS P l Q f (listed.setIfInBounds i true)) ∨ StepN P st o (AnyS P l Q f (listed.setIfInBounds i true))) (AnyS P l Q f (listed.setIfInBounds i true) (st.put o.dst (.tup []))))
theorem AnyS_sound {C : Ctx P} {l : List Oper} (hN : dstsOk C.N l = true) {Q : St → Prop} {Q' : Exit → Act → World → Prop} (hQ : ∀ st a w, Q st → Gam C st a w → Q' .normal a w) :
    ∀ (f : Nat) (listed : Array Bool) (st : St) (a : Act) (w : World), AnyS P l Q f listed st → Gam C st a w → wpAny P .any l.toArray Q' f listed a w
  | 0, listed, st, a, w, h, g => ⟨(Stop.out h).1, hQ st a w (Stop.out h).2 g⟩
  | f + 1, listed, st, a, w, h, g => by
    have h2 := Stop.out h
    refine ⟨fun h0 => hQ st a w (h2.1 h0) g, fun i hi => ?_⟩
    obtain ⟨o, ho, hg⟩ := h2.2 i hi
    have hN1 := dstsOk_mem hN (List.mem_of_getElem? ho)
    unfold wpOp
    have ho' : l.toArray[i]? = some o := by simpa using ho
    simp only [ho']
    rcases guardA_some hg with ⟨hw, hk'⟩ | ⟨hw, hk'⟩
    · rw [g.wanted hw]
      simp only [if_true]
      obtain ⟨φ, g⟩ := g
      rcases hk' with hk' | hk'
      · exact .inl (opK_step g hN1 hk' fun st' a' w' hK hG => AnyS_sound hN hQ f _ st' a' w' hK hG)
      · exact .inl (hk' _ _ _ _ g hN1 _ _ fun st' a' w' hK hG => AnyS_sound hN hQ f _ st' a' w' hK hG)
    · rw [g.wanted hw]
      simp only [Bool.false_eq_true, if_false]
      exact AnyS_sound hN hQ f _ _ _ _ hk' (g.put_junk o.dst hN1)
theorem good_orders {id : Nat} {l : List Oper} (n : Nat) {listed : Array Bool} (hn : l.length = n) (hl : Array.replicate n false = listed) (hm : P.follows .mixedOrders = true) (hN : dstsOk N l = true)
    (h : AnyS P l (Q .normal) n listed st) : Good P N (.region id l.toArray true) Q st := fun C hC a w g => by
  subst hC hn hl
  have hg : Gam C st a { w with drawn := w.drawn + 1 } := by
    obtain ⟨φ, g⟩ := g
    exact ⟨φ, g.quiet ⟨rfl, rfl, rfl, Nat.le_refl _, fun _ _ => rfl⟩⟩
  have := AnyS_sound (Q' := fun e a' w' => ∃ st', Q e st' ∧ Gam C st' a' w') hN (fun s a w h g => ⟨s, h, g⟩) l.length _ st a _ h hg
  exact wp_region_any hm (by simpa using this)
theorem min_ex {p : Nat → Prop} (h : ∃ n, p n) : ∃ n, p n ∧ ∀ k, p k → n ≤ k := by
  obtain ⟨n, hn⟩ := h
  have : ∀ n, p n → ∃ n, p n ∧ ∀ k, p k → n ≤ k := by
    intro n
    induction n using Nat.strongRecOn with
    | _ n ih =>
      intro hn
      by_cases hk : ∃ k, k < n ∧ p k
      · obtain ⟨k, h1, h2⟩ := hk; exact ih k h1 h2
      · exact ⟨n, hn, fun k hp => Nat.le_of_not_lt fun hlt => hk ⟨k, hlt, hp⟩⟩
  exact this n hn
theorem good_loop {α : Type} {c : Code} (E : α → St) (I : α → Prop) (μ : α → Nat) (x0 : α) (h0 : I x0) (hs : Sub N st (E x0))
    (round : ∀ x, I x → Good P N c (thenQ (fun s => ∃ y, I y ∧ μ y < μ x ∧ Sub N s (E y)) Q) (E x)) : Good P N (.loop c) Q st := fun C hC a w g => by
  have hex : ∃ m : Act → World → Nat, ∀ a w, (∃ x, I x ∧ Gam C (E x) a w) → (∃ x, I x ∧ Gam C (E x) a w ∧ μ x = m a w) ∧ ∀ x, I x → Gam C (E x) a w → m a w ≤ μ x := by
    have : ∀ p : Act × World, ∃ n : Nat, (∃ x, I x ∧ Gam C (E x) p.1 p.2) → (∃ x, I x ∧ Gam C (E x) p.1 p.2 ∧ μ x = n) ∧ ∀ x, I x → Gam C (E x) p.1 p.2 → n ≤ μ x := by
      intro p
      by_cases h : ∃ x, I x ∧ Gam C (E x) p.1 p.2
      · obtain ⟨n, ⟨x, h1, h2, h3⟩, hmin⟩ := min_ex (p := fun n => ∃ x, I x ∧ Gam C (E x) p.1 p.2 ∧ μ x = n) (by obtain ⟨x, h1, h2⟩ := h; exact ⟨μ x, x, h1, h2, rfl⟩)
        exact ⟨n, fun _ => ⟨⟨x, h1, h2, h3⟩, fun y hy gy => hmin _ ⟨y, hy, gy, rfl⟩⟩⟩
      · exact ⟨0, fun hh => absurd hh h⟩
    obtain ⟨m, hm⟩ := Classical.axiomOfChoice this
    exact ⟨fun a w => m (a, w), fun a w => hm (a, w)⟩
  obtain ⟨m, hm⟩ := hex
  refine wp_loop (fun a w => ∃ x, I x ∧ Gam C (E x) a w) m ⟨x0, h0, hs C hC a w g⟩ fun a w hI => ?_
  obtain ⟨⟨x, h1, h2, h3⟩, -⟩ := hm a w hI
  refine wp_mono (round x h1 C hC a w h2) ?_
  intro e a' w' ⟨s, hq, hg⟩
  cases e with
  | normal =>
    obtain ⟨y, hy, hlt, hsub⟩ := hq
    have hg' := hsub C hC a' w' hg
    have hI' : ∃ x, I x ∧ Gam C (E x) a' w' := ⟨y, hy, hg'⟩
    exact ⟨hI', by have := (hm a' w' hI').2 y hy hg'; omega⟩
  | _ => exact ⟨s, hq, hg⟩
/-! ### A state that says less -/
mutual
def refs : AV → List Nat
  | .ptr h _ => [h]
  | .eptr h _ _ => [h]
  | .own h _ => [h]
  | .osl h _ _ => [h]
  | .clo _ hs => hs
  | .nst h _ => [h]
  | .nptr h _ => [h]
  | .inr h _ => [h]
  | .agg cs => refsL cs
  | .tup cs => refsL cs
  | .s _ => []
  | .nil => []
  | .lst _ _ => []
  | .rp _ => []
  | .fn _ _ => []
  | .junk => []
def refsL : List AV → List Nat
  | [] => []
  | c :: cs => refs c ++ refsL cs
end
theorem mem_refsL {k : Nat} : ∀ {cs : List AV}, k ∈ refsL cs ↔ ∃ c ∈ cs, k ∈ refs c
  | [] => by simp [refsL]
  | c :: cs => by simp [refsL, mem_refsL (cs := cs)]
def RefsIn (H : Nat → Option OB) (v : AV) : Prop := ∀ h ∈ refs v, (H h).isSome = true
def WeakE (st : St) (H' : Nat → Option OB) (e' : Nat → AV) : Prop := ∀ t, e' t = .junk ∨ (e' t = st.env t ∧ RefsIn H' (e' t))
theorem weakE_junk (st : St) (H' : Nat → Option OB) : WeakE st H' (fun _ => .junk) := fun _ => .inl rfl
theorem weakE_upd {H' : Nat → Option OB} {e' : Nat → AV} {t : Nat} {v : AV} (hv : v = st.env t) (hr : RefsIn H' v) (h : WeakE st H' e') : WeakE st H' (upd e' t v) := by
  intro i
  by_cases hi : i = t
  · subst hi; rw [upd_same]; exact .inr ⟨hv, hr⟩
  · rw [upd_ne _ _ hi]; exact h i
theorem weakE_updj {H' : Nat → Option OB} {e' : Nat → AV} {t : Nat} (h : WeakE st H' e') : WeakE st H' (upd e' t .junk) := by
  intro i
  by_cases hi : i = t
  · subst hi; rw [upd_same]; exact .inl rfl
  · rw [upd_ne _ _ hi]; exact h i
def WeakH (H H' : Nat → Option OB) : Prop := ∀ h ob, H' h = some ob → H h = some ob ∧ ∀ ty cs, ob = .box ty cs → ∀ c ∈ cs, RefsIn H' c
theorem weakH_none (H : Nat → Option OB) : WeakH H (fun _ => none) := fun _ _ h => by cases h
theorem RepV.less {φ : Nat → Value} {H H' : Nat → Option OB} {w : World} {ok ok' : Nat → Prop} (hH : ∀ h ob, H' h = some ob → H h = some ob) (hk : ∀ b, ok b → ok' b) {v : AV} {x : Value} (hr : RefsIn H' v) (h : RepV φ H w ok v x) : RepV φ H' w ok' v x := by
  refine RepV.lift1 (p := fun v => RefsIn H' v) (fun cs hp c hc k hkm => hp k (by simp only [refs]; exact mem_refsL.2 ⟨c, hc, hkm⟩)) (fun cs hp c hc k hkm => hp k (by simp only [refs]; exact mem_refsL.2 ⟨c, hc, hkm⟩)) (fun v x hl hr h => ?_) hr h
  have get : ∀ k ob, k ∈ refs v → H k = some ob → H' k = some ob := by
    intro k ob hkm hob
    obtain ⟨ob', h'⟩ := Option.isSome_iff_exists.1 (hr k hkm)
    have := hH k ob' h'
    rw [hob] at this
    cases this
    exact h'
  cases v with
  | ptr k o => obtain ⟨ty, cs, g, h1, r⟩ := h; exact ⟨ty, cs, g, get k _ (by simp [refs]) h1, r⟩
  | eptr k i o => obtain ⟨ty, sz, es, g, m, c, h1, r⟩ := h; exact ⟨ty, sz, es, g, m, c, get k _ (by simp [refs]) h1, r⟩
  | own k n => obtain ⟨ty, sz, es, A, m, c, h1, r⟩ := h; exact ⟨ty, sz, es, A, m, c, get k _ (by simp [refs]) h1, r⟩
  | osl k i n => obtain ⟨ty, sz, es, A, m, c, A', c', h1, r⟩ := h; exact ⟨ty, sz, es, A, m, c, A', c', get k _ (by simp [refs]) h1, r⟩
  | nst k n => obtain ⟨ty, tyI, szI, rows, fs, h1, r⟩ := h; exact ⟨ty, tyI, szI, rows, fs, get k _ (by simp [refs]) h1, r⟩
  | nptr k i => obtain ⟨ty, tyI, szI, rows, g, m, c, fs, h1, r⟩ := h; exact ⟨ty, tyI, szI, rows, g, m, c, fs, get k _ (by simp [refs]) h1, r⟩
  | inr k i => obtain ⟨ty, tyI, szI, rows, fo, fs, h1, r⟩ := h; exact ⟨ty, tyI, szI, rows, fo, fs, get k _ (by simp [refs]) h1, r⟩
  | clo f hs =>
    obtain ⟨e, hall⟩ := h
    refine ⟨e, fun k hkm => ?_⟩
    obtain ⟨ty, cs, h1⟩ := hall k hkm
    exact ⟨ty, cs, get k _ (by simpa [refs] using hkm) h1⟩
  | junk => trivial
  | agg => simp [leafV] at hl
  | tup => simp [leafV] at hl
  | _ => exact Rep.weak hk h
theorem sub_weak {H' : Nat → Option OB} {e' : Nat → AV} (hH : WeakH st.H H') (hE : WeakE st H' e') : Sub N st { env := e', H := H' } := by
  intro P C hC a w ⟨φ, g⟩
  have hs : ∀ h, (H' h).isSome = true → (st.H h).isSome = true := by
    intro h hh
    obtain ⟨ob, hob⟩ := Option.isSome_iff_exists.1 hh
    rw [(hH h ob hob).1]; rfl
  have hk : ∀ b, okG C φ st.H b → okG C φ H' b := fun b hb => ⟨hb.1, fun h hh => hb.2 h (hs h hh)⟩
  refine ⟨φ, g.size, g.defers, g.below, fun k b h1 => g.mine k b (hs k h1), fun k hk h1 => g.keep k hk (hs k h1), fun i k b hne h1 h2 => g.disj i k b hne (hs i h1) (hs k h2), fun h ob hob => ?_, fun t => ?_⟩
  · obtain ⟨h1, h2⟩ := hH h ob hob
    have ho := g.own h ob h1
    cases ob with
    | row ty sz es =>
      obtain ⟨xs, r1, r2, r3⟩ := ho
      exact ⟨xs, r1, Reps.mono (fun b hb _ => hk b hb) (fun _ _ _ => rfl) r2, r3⟩
    | nest ty tyI szI rows => exact nest_stay ho (fun _ _ => rfl) (fun r _ xs h => h.mono (fun b hb _ => hk b hb) (fun _ _ _ => rfl))
    | box ty cs =>
      obtain ⟨gb, arr, r1, r3, r4, r5⟩ := ho
      exact ⟨gb, arr, r1, r3, r4, r5.1, fun i x v hx hv => (r5.2 i x v hx hv).less (fun h ob h' => (hH h ob h').1) hk (h2 ty cs rfl x (List.mem_of_getElem? hx))⟩
  · rcases hE t with h | ⟨h1, h2⟩
    · simp only [h]; trivial
    · simp only [h1] at h2 ⊢
      exact (g.rep t).less (fun h ob h' => (hH h ob h').1) hk h2
theorem sub_nil (t d : Nat) (ty sz : Nat) (ht : st.env t = .nil) (hd : st.H d = none) (hdn : d < 1000000) : Sub N st { env := upd st.env t (.own d 0), H := upd st.H d (some (.row ty sz [])) } := by
  intro P C hC a w ⟨φ, g⟩
  have hr := g.rep t
  rw [ht] at hr
  have h2 : Rep w (okG C φ st.H) .nil (a.tmps.getD t undef) := hr
  generalize hz : a.tmps.getD t undef = z at h2
  cases h2 with
  | nil =>
    rename_i A
    have ho : OwnsR w 0 ty sz (.slice A 0 0) ([] : List AV).length [] := .inr ⟨rfl, rfl, _, rfl⟩
    have g2 := g.newRow (w' := w) (d := d) hdn hd (e := ty) (sz := sz) (es := []) (xs := []) ⟨rfl, rfl, rfl, Nat.le_refl _, fun _ _ _ => rfl⟩ (fun b hb => by cases A <;> simp [Blk, blkOf] at hb) ho .nil (fun x hx => by simp at hx) (fun v hv => by simp at hv)
    refine ⟨_, g2.size, g2.defers, g2.below, g2.mine, g2.keep, g2.disj, g2.own, fun i => ?_⟩
    by_cases hi : i = t
    · subst hi
      simp only [upd_same]
      rw [hz]
      exact own_new (st := st) (src := none) rfl ho
    · simp only [upd_ne _ _ hi]
      exact g2.rep i
theorem sub_shr (t k d : Nat) {ty sz n : Nat} {es : List AV} (ht : st.env t = .own k n) (hk : st.H k = some (.row ty sz es)) (hd : st.H d = none) (hdn : d < 1000000) :
    Sub N st { env := upd (fun i => killV k (st.env i)) t (.own d n), H := upd (dropH (st.kill k).H (some k)) d (some (.row ty sz (es.take n))) } := by
  intro P C hC a w ⟨φ, g⟩
  have gk := g.kill k
  have hHk : (st.kill k).H k = some (.row ty sz es) := by simp [St.kill, hk, killO]
  have hdk : (st.kill k).H d = none ∨ some k = some d := .inl (by simp [St.kill, hd])
  have hno : ∀ h, some k = some h → NoRef (st.kill k) h := fun h e => by cases e; exact NoRef.kill st k
  have hrw : ∀ h, some k = some h → ∃ ty sz es, (st.kill k).H h = some (.row ty sz es) := fun h e => by cases e; exact ⟨_, _, _, hHk⟩
  have hg : w.grownBy w none := ⟨rfl, rfl, rfl, Nat.le_refl _, fun _ _ _ => rfl⟩
  have hrow : ∀ b, (none : Option Nat) = some b → ∃ h, some k = some h ∧ Blk (φ h) b := fun b hb => by cases hb
  have hr := g.rep t
  rw [ht] at hr
  obtain ⟨ty', sz', es', A, m, c, hH', hφ, hn, hx⟩ := hr
  rw [hk] at hH'
  cases hH'
  have hln : (es.take n).length = n := by simp; omega
  have hblk : ∀ b, Blk (.slice A n c) b → w.heap.size ≤ b ∨ ∃ h, some k = some h ∧ ((st.kill k).H h).isSome = true ∧ Blk (φ h) b := fun b hb => .inr ⟨k, rfl, by rw [hHk]; rfl, by
    rw [hφ]; cases A with
    | none => cases c <;> simp [Blk, blkOf] at hb
    | some ad => cases c with
      | zero => simp [Blk, blkOf] at hb
      | succ q => exact hb⟩
  have g2 := gk.move (src := some k) (d := d) (ob := .row ty sz (es.take n)) (fv := .slice A n c) (w' := w) hno hrw hdk hg hrow hblk hdn (by
    obtain ⟨xs, h1, h2, h3, h4⟩ := gk.own k _ hHk
    refine ⟨xs.take (n * sz), ?_, ?_, fun x hx => h3 x (List.mem_of_mem_take hx), fun e he => h4 e (List.mem_of_mem_take he)⟩
    · rw [hln]
      rw [hφ] at h1
      rcases h1.cases with ⟨h0, hxs, A2, h⟩ | ⟨g', cap, cur, h, hB, hg', h5, h6, h7, h8⟩
      · cases h
        have hn0 : n = 0 := by omega
        subst hn0
        exact .inr ⟨rfl, by simp, A, rfl⟩
      · cases h
        have hle : n * sz ≤ es.length * sz := Nat.mul_le_mul_right _ hn
        refine .inl ⟨by rw [List.length_take, h1.length]; omega, .inr ⟨g', c, cur, rfl, hB, hg', by omega, h6, h7, ?_⟩⟩
        rw [← h8, List.take_take]
        congr 1; omega
    · rw [flats_take h4 hn]
      exact (h2.take _).mono (fun b hb hlt => move_ok gk hblk hdk b hb hlt) (fun _ _ _ => rfl))
  refine ⟨_, g2.size, g2.defers, g2.below, g2.mine, g2.keep, g2.disj, g2.own, fun i => ?_⟩
  by_cases hi : i = t
  · subst hi
    simp only [upd_same]
    exact ⟨ty, sz, es.take n, A, n, c, upd_same _ _ _, upd_same _ _ _, by rw [hln]; exact Nat.le_refl _, hx⟩
  · simp only [upd_ne _ _ hi]
    exact g2.rep i
theorem sub_move (t k d : Nat) {ty sz n : Nat} {es : List AV} (ht : st.env t = .own k n) (hk : st.H k = some (.row ty sz es)) (hd : st.H d = none) (hdn : d < 1000000) :
    Sub N st { env := upd (fun i => killV k (st.env i)) t (.own d n), H := upd (dropH (st.kill k).H (some k)) d (some (.row ty sz es)) } := by
  intro P C hC a w ⟨φ, g⟩
  have gk := g.kill k
  have hHk : (st.kill k).H k = some (.row ty sz es) := by simp [St.kill, hk, killO]
  have hdk : (st.kill k).H d = none ∨ some k = some d := .inl (by simp [St.kill, hd])
  have hno : ∀ h, some k = some h → NoRef (st.kill k) h := fun h e => by cases e; exact NoRef.kill st k
  have hrw : ∀ h, some k = some h → ∃ ty sz es, (st.kill k).H h = some (.row ty sz es) := fun h e => by cases e; exact ⟨_, _, _, hHk⟩
  have hg : w.grownBy w none := ⟨rfl, rfl, rfl, Nat.le_refl _, fun _ _ _ => rfl⟩
  have hrow : ∀ b, (none : Option Nat) = some b → ∃ h, some k = some h ∧ Blk (φ h) b := fun b hb => by cases hb
  have hblk : ∀ b, Blk (φ k) b → w.heap.size ≤ b ∨ ∃ h, some k = some h ∧ ((st.kill k).H h).isSome = true ∧ Blk (φ h) b := fun b hb => .inr ⟨k, rfl, by rw [hHk]; rfl, hb⟩
  have g2 := gk.move (src := some k) (d := d) (ob := .row ty sz es) (fv := φ k) (w' := w) hno hrw hdk hg hrow hblk hdn (by
    obtain ⟨xs, h1, h2, h3, h4⟩ := gk.own k _ hHk
    exact ⟨xs, h1, h2.mono (fun b hb hlt => move_ok gk hblk hdk b hb hlt) (fun _ _ _ => rfl), h3, h4⟩)
  refine ⟨_, g2.size, g2.defers, g2.below, g2.mine, g2.keep, g2.disj, g2.own, fun i => ?_⟩
  by_cases hi : i = t
  · subst hi
    simp only [upd_same]
    have hr := g.rep i
    rw [ht] at hr
    obtain ⟨ty', sz', es', A, m, c, hH', hφ, hn, hx⟩ := hr
    rw [hk] at hH'
    cases hH'
    exact ⟨ty, sz, es, A, m, c, upd_same _ _ _, by rw [upd_same]; exact hφ, hn, hx⟩
  · simp only [upd_ne _ _ hi]
    exact g2.rep i
/-! ### Results -/
def resOne (P : Program) (st : St) (rv : ResultVar) (K : AV → Prop) : Prop :=
  match rv with
  | .tmp t => (match roOf st.H 4 (st.env t) with
    | some r => K r
    | none => False)
  | .cell t ty => ptrQ st.H (st.env t) fun cs => (match tAgg P ty with
    | some (some n) => n ≤ cs.length ∧ (match optAll (roOf st.H 4) (cs.take n) with
      | some ys => K (.agg ys)
      | none => False)
    | some none => headQ cs fun c => (match roOf st.H 4 c with
      | some y => K y
      | none => False)
    | none => False)
def resAll (P : Program) (st : St) : List ResultVar → (List AV → Prop) → Prop
  | [], K => K []
  | rv :: r, K => resOne P st rv fun v => resAll P st r fun vs => K (v :: vs)
def resQ (P : Program) (st : St) (rs : List ResultVar) (K : AV → Prop) : Prop :=
  match rs with
  | [rv] => resOne P st rv K
  | rs => resAll P st rs fun vs => K (.tup vs)
section
variable {C : Ctx P} {φ : Nat → Value} {a : Act} {w : World}
def rvRun (tmps : Array Value) : ResultVar → Sem Value
  | .tmp t => pure (tmps.getD t undef)
  | .cell a t => do loadVar t (← asAddr (tmps.getD a undef))
theorem resOne_sound (g : GamW C st φ a w) {rv : ResultVar} {K : AV → Prop} (h : resOne P st rv K) : ∃ r x, K r ∧ Rep w (okF C) r x ∧ (rvRun a.tmps rv).run P w = .ok x w := by
  unfold resOne at h
  split at h
  · split at h
    · rename_i r hr
      exact ⟨r, _, h, g.roOf 4 (g.rep _) hr, rfl⟩
    · exact h.elim
  · rename_i t ty
    obtain ⟨cs, b, o, vs, hK, hx, hc, h1, h2⟩ := ptrQ_sound g (g.rep t) h
    split at hK
    · rename_i n hn
      obtain ⟨hl, hK⟩ := hK
      split at hK
      · rename_i ys hys
        refine ⟨_, _, hK, .agg (optAll_sound (R := RepV φ st.H w (okG C φ st.H)) (R' := Rep w (okF C)) (fun x y v hx hy => g.roOf 4 hx hy) hys (h2.take n)).toReps, ?_⟩
        have := load_agg (P := P) hn hc (by rw [h2.1]; exact hl)
        simp only [rvRun, hx, Sem.run_bind, asAddr, Sem.run_pure, Result.andThen_ok, this]
      · exact hK.elim
    · rename_i hn
      cases cs with
      | nil => exact hK.elim
      | cons c cs =>
        simp only [headQ] at hK
        split at hK
        · rename_i y hy
          cases vs with
          | nil => simpa using h2.1
          | cons v vs =>
            refine ⟨y, v, hK, g.roOf 4 (h2.2 0 _ _ rfl rfl) hy, ?_⟩
            have := load_one (P := P) hn hc
            simp only [rvRun, hx, Sem.run_bind, asAddr, Sem.run_pure, Result.andThen_ok, this]
        · exact hK.elim
    · exact hK.elim
theorem resAll_sound (g : GamW C st φ a w) : ∀ (rs : List ResultVar) {K : List AV → Prop}, resAll P st rs K → ∃ vs xs, K vs ∧ Reps w (okF C) vs xs ∧ (rs.mapM (rvRun a.tmps)).run P w = .ok xs w
  | [], K, h => ⟨[], [], h, .nil, rfl⟩
  | rv :: rs, K, h => by
    obtain ⟨r, x, h1, h2, h3⟩ := resOne_sound g h
    obtain ⟨vs, xs, h4, h5, h6⟩ := resAll_sound g rs h1
    refine ⟨r :: vs, x :: xs, h4, .cons h2 h5, ?_⟩
    rw [List.mapM_cons]
    simp only [Sem.run_bind, h3, h6, Result.andThen_ok, Sem.run_pure]
theorem results_run {fn : Func} {xs : List Value} (h : (fn.results.toList.mapM (rvRun a.tmps)).run P w = .ok xs w) : (results fn a.tmps).run P w = .ok (if h : xs.toArray.size = 1 then xs.toArray[0] else .tuple xs.toArray) w := by
  have key : ∀ (rs : Array ResultVar), (rs.toList.mapM (rvRun a.tmps)).run P w = .ok xs w → (rs.mapM (rvRun a.tmps)).run P w = .ok xs.toArray w := by
    rintro ⟨l⟩ h
    rw [List.mapM_toArray, Sem.run_map]
    have h' : (l.mapM (rvRun a.tmps)).run P w = .ok xs w := h
    rw [h']; rfl
  have e := key fn.results h
  have hr : results fn a.tmps = (do let vs ← fn.results.mapM (rvRun a.tmps); pure (if h : vs.size = 1 then vs[0] else .tuple vs)) := by
    unfold results
    congr 1
  rw [hr, Sem.run_bind, e]
  rfl
theorem resQ_sound (g : GamW C st φ a w) {fn : Func} {K : AV → Prop} (h : resQ P st fn.results.toList K) : ∃ r x, K r ∧ Rep w (okF C) r x ∧ (results fn a.tmps).run P w = .ok x w := by
  unfold resQ at h
  split at h
  · rename_i rv hrv
    obtain ⟨r, x, h1, h2, h3⟩ := resOne_sound g h
    refine ⟨r, x, h1, h2, ?_⟩
    have : (fn.results.toList.mapM (rvRun a.tmps)).run P w = .ok [x] w := by
      rw [hrv, List.mapM_cons]
      simp only [Sem.run_bind, h3, Result.andThen_ok, List.mapM_nil, Sem.run_pure]
    rw [results_run this]; rfl
  · rename_i hne
    obtain ⟨vs, xs, h1, h2, h3⟩ := resAll_sound g _ h
    refine ⟨.tup vs, .tuple xs.toArray, h1, .tup h2, ?_⟩
    rw [results_run h3]
    have hlen : xs.length = fn.results.toList.length := by
      have mlen : ∀ (rs : List ResultVar) (w w' : World) {xs : List Value}, (rs.mapM (rvRun a.tmps)).run P w = .ok xs w' → xs.length = rs.length := by
        intro rs
        induction rs with
        | nil => intro w w' xs h; cases h; rfl
        | cons rv rs ih =>
          intro w w' xs h
          rw [List.mapM_cons] at h
          simp only [Sem.run_bind] at h
          cases h1 : (rvRun a.tmps rv).run P w with
          | halt _ _ => rw [h1] at h; cases h
          | ok x w1 =>
            rw [h1] at h
            simp only [Result.andThen_ok] at h
            cases h2 : (rs.mapM (rvRun a.tmps)).run P w1 with
            | halt _ _ => rw [h2] at h; cases h
            | ok ys w2 =>
              rw [h2] at h
              simp only [Result.andThen_ok, Sem.run_pure] at h
              cases h
              simpa using ih _ _ h2
      exact mlen _ w w h3
    have hne1 : ¬ xs.toArray.size = 1 := by
      simp only [List.size_toArray]
      intro h1
      rw [hlen] at h1
      obtain ⟨rv, hrv⟩ := List.length_eq_one_iff.1 h1
      exact hne rv hrv
    rw [dif_neg hne1]
end
def initE : Nat → List AV → Nat → AV
  | _, [] => fun _ => .junk
  | k, v :: vs => upd (initE (k + 1) vs) k v
theorem initE_get : ∀ (vs : List AV) (k t : Nat), initE k vs t = if t < k then .junk else vs.getD (t - k) .junk
  | [], k, t => by simp [initE]
  | v :: vs, k, t => by
    simp only [initE]
    by_cases h : t = k
    · subst h; rw [upd_same]; simp
    · rw [upd_ne _ _ h, initE_get vs (k + 1) t]
      by_cases h2 : t < k
      · rw [if_pos (by omega), if_pos h2]
      · rw [if_neg (by omega), if_neg h2]
        obtain ⟨q, hq⟩ : ∃ q, t - k = q + 1 := ⟨t - k - 1, by omega⟩
        rw [hq, show t - (k + 1) = q by omega]
        simp
theorem den_of_good {f : Nat} {fn : Func} {c : Code} {args : List AV} {r : AV} (hf : P.funcs[f]? = some fn) (hname : (fn.name == "runtime.NumGoroutine") = false) (hb : fn.body = some c) (hl : args.length ≤ fn.ntmps) (hsm : fn.ntmps ≤ 1000000)
    (h : Good P fn.ntmps c (fun e s => match e with
      | .normal => resQ P s fn.results.toList fun v => v = r
      | .ret => resQ P s fn.results.toList fun v => v = r
      | _ => False) { env := initE 0 args, H := fun _ => none }) : Den P f args r := by
  refine ⟨⟨fn, hf, hname, by rw [hb]; rfl⟩, fun w ok vs hglb hvs => calls_of_wp hf hb ?_⟩
  let C : Ctx P := { w0 := w, ok0 := ok, N := fn.ntmps, M := fun _ => False, φ0 := fun _ => undef, small := hsm, glb := hglb.mono (fun b hb _ => ⟨hb, fun h => h⟩) (fun _ _ _ => rfl) }
  have hlen : vs.length = args.length := hvs.length
  have g : GamW C { env := initE 0 args, H := fun _ => none } (fun _ => undef) { tmps := vs.toArray ++ Array.replicate (fn.ntmps - vs.toArray.size) undef, defers := [] } w := by
    refine ⟨(by simp [C]; omega), rfl, BelowM.refl _ _, (fun _ _ h => by cases h), (fun _ _ h => by cases h), (fun _ _ _ _ h => by cases h), (fun _ _ h => by cases h), fun t => ?_⟩
    simp only [initE_get, Nat.sub_zero, Nat.not_lt_zero, if_false]
    by_cases ht : t < args.length
    · have h1 : args[t]? = some args[t] := List.getElem?_eq_getElem ht
      obtain ⟨v, hv, hr⟩ := hvs.get h1
      have e1 : args.getD t .junk = args[t] := by simp [List.getD, h1]
      have e2 : (vs.toArray ++ Array.replicate (fn.ntmps - vs.toArray.size) undef).getD t undef = v := by
        simp only [Array.getD_eq_getD_getElem?]
        rw [Array.getElem?_append_left (by simp; omega)]
        simp [hv]
      rw [e1, e2]
      exact RepV.of (hr.mono (fun b hb _ => ⟨.inl hb, fun _ h => by cases h⟩) (fun _ _ _ => rfl))
    · have e1 : args.getD t .junk = .junk := by simp [List.getD, List.getElem?_eq_none (Nat.le_of_not_lt ht)]
      rw [e1]; trivial
  refine wp_mono (h C rfl _ w ⟨_, g⟩) ?_
  intro e a' w' ⟨s, hq, φ, g'⟩
  have fin : resQ P s fn.results.toList (fun v => v = r) → bodyPost P fn (fun e w' => ∃ v, e = .returned v ∧ Below w.heap.size w w' ∧ Rep w' (fun b => ok b ∨ w.heap.size ≤ b) r v) .ret a' w' := by
    intro hq
    obtain ⟨r', x, rfl, h2, h3⟩ := resQ_sound g' hq
    exact ⟨g'.defers, x, h3, x, rfl, g'.below.below (fun _ h => h), h2.weak fun b hb => hb.resolve_right (fun h => h)⟩
  cases e with
  | normal => exact fin hq
  | ret => exact fin hq
  | _ => exact hq.elim
/-! ### Functions that write -/
def resX1 (P : Program) (st : St) (rv : ResultVar) (K : AV → Prop) : Prop :=
  match rv with
  | .tmp t => K (st.env t)
  | .cell t ty => ptrQ st.H (st.env t) fun cs => (match tAgg P ty with
    | some (some n) => n ≤ cs.length ∧ K (.agg (cs.take n))
    | some none => headQ cs K
    | none => False)
def resXs (P : Program) (st : St) : List ResultVar → (List AV → Prop) → Prop
  | [], K => K []
  | rv :: r, K => resX1 P st rv fun v => resXs P st r fun vs => K (v :: vs)
def resX (P : Program) (st : St) (rs : List ResultVar) (K : AV → Prop) : Prop :=
  match rs with
  | [rv] => resX1 P st rv K
  | rs => resXs P st rs fun vs => K (.tup vs)
mutual
inductive Conv : (Nat → Option OB) → (Nat → Option OB) → AV → AV → Prop
  | same {H v} : Conv H H v v
  | nil {H : Nat → Option OB} {d ty sz : Nat} (h : H d = none) (hd : d < 1000000) : Conv H (upd H d (some (.row ty sz []))) .nil (.own d 0)
  | agg {H H' cs rs} (h : Convs H H' cs rs) : Conv H H' (.agg cs) (.agg rs)
  | tup {H H' cs rs} (h : Convs H H' cs rs) : Conv H H' (.tup cs) (.tup rs)
inductive Convs : (Nat → Option OB) → (Nat → Option OB) → List AV → List AV → Prop
  | nil {H} : Convs H H [] []
  | cons {H H1 H2 c r cs rs} (h : Conv H H1 c r) (t : Convs H1 H2 cs rs) : Convs H H2 (c :: cs) (r :: rs)
end
def finX (P : Program) (st : St) (rs : List ResultVar) (post : List (Nat × OB)) (r : AV) : Prop :=
  resX P st rs fun v => ∃ H1, Conv st.H H1 v r ∧ WeakH H1 (hof post) ∧ RefsIn (hof post) r
section
variable {C : Ctx P} {φ : Nat → Value} {a : Act} {w : World}
theorem resX1_sound (g : GamW C st φ a w) {rv : ResultVar} {K : AV → Prop} (h : resX1 P st rv K) : ∃ r x, K r ∧ RepV φ st.H w (okG C φ st.H) r x ∧ (rvRun a.tmps rv).run P w = .ok x w := by
  unfold resX1 at h
  split at h
  · exact ⟨_, _, h, g.rep _, rfl⟩
  · rename_i t ty
    obtain ⟨cs, b, o, vs, hK, hx, hc, h1, h2⟩ := ptrQ_sound g (g.rep t) h
    split at hK
    · rename_i n hn
      obtain ⟨hl, hK⟩ := hK
      refine ⟨_, _, hK, RepV.agg (h2.take n), ?_⟩
      have := load_agg (P := P) hn hc (by rw [h2.1]; exact hl)
      simp only [rvRun, hx, Sem.run_bind, asAddr, Sem.run_pure, Result.andThen_ok, this]
    · rename_i hn
      cases cs with
      | nil => exact hK.elim
      | cons c cs =>
        cases vs with
        | nil => simpa using h2.1
        | cons v vs =>
          refine ⟨c, v, hK, h2.2 0 _ _ rfl rfl, ?_⟩
          have := load_one (P := P) hn hc
          simp only [rvRun, hx, Sem.run_bind, asAddr, Sem.run_pure, Result.andThen_ok, this]
    · exact hK.elim
theorem resXs_sound (g : GamW C st φ a w) : ∀ (rs : List ResultVar) {K : List AV → Prop}, resXs P st rs K → ∃ vs xs, K vs ∧ All2 (RepV φ st.H w (okG C φ st.H)) vs xs ∧ (rs.mapM (rvRun a.tmps)).run P w = .ok xs w ∧ xs.length = rs.length
  | [], K, h => ⟨[], [], h, ⟨rfl, fun i x v hx _ => by simp at hx⟩, rfl, rfl⟩
  | rv :: rs, K, h => by
    obtain ⟨r, x, h1, h2, h3⟩ := resX1_sound g h
    obtain ⟨vs, xs, h4, h5, h6, h7⟩ := resXs_sound g rs h1
    refine ⟨r :: vs, x :: xs, h4, ⟨by simp [h5.1], fun i y v hy hv => ?_⟩, ?_, by simp [h7]⟩
    · cases i with
      | zero => simp at hy hv; subst hy hv; exact h2
      | succ i => exact h5.2 i y v (by simpa using hy) (by simpa using hv)
    · rw [List.mapM_cons]
      simp only [Sem.run_bind, h3, Result.andThen_ok, h6, Sem.run_pure]
theorem resX_sound (g : GamW C st φ a w) {fn : Func} {K : AV → Prop} (h : resX P st fn.results.toList K) : ∃ r x, K r ∧ RepV φ st.H w (okG C φ st.H) r x ∧ (results fn a.tmps).run P w = .ok x w := by
  unfold resX at h
  split at h
  · rename_i rv hrs
    obtain ⟨r, x, h1, h2, h3⟩ := resX1_sound g h
    refine ⟨r, x, h1, h2, ?_⟩
    have hm : (fn.results.toList.mapM (rvRun a.tmps)).run P w = .ok [x] w := by
      rw [hrs, List.mapM_cons]
      simp only [Sem.run_bind, h3, Result.andThen_ok, List.mapM_nil, Sem.run_pure]
    rw [results_run hm]; rfl
  · rename_i hne
    obtain ⟨vs, xs, h1, h2, h3, h4⟩ := resXs_sound g _ h
    refine ⟨_, _, h1, RepV.tup h2, ?_⟩
    rw [results_run h3]
    have hne1 : ¬ xs.toArray.size = 1 := by
      simp only [List.size_toArray]
      intro e
      rw [h4] at e
      obtain ⟨rv, hrv⟩ := List.length_eq_one_iff.1 e
      exact hne rv hrv
    rw [dif_neg hne1]
end
section
variable {C : Ctx P} {φ : Nat → Value} {a : Act} {w : World}
theorem GamW.held (g : GamW C st φ a w) {ok : Nat → Prop} (hok : ∀ b, C.ok0 b ∨ C.w0.heap.size ≤ b → ok b) : Held ok φ st.H w := by
  have hk : ∀ b, okG C φ st.H b → okH ok φ st.H b := fun b hb => ⟨hok b hb.1, hb.2⟩
  refine ⟨g.disj, fun h ob hob => ?_⟩
  have ho := g.own h ob hob
  cases ob with
  | row ty sz es =>
    obtain ⟨xs, r1, r2, r3⟩ := ho
    exact ⟨xs, r1, r2.mono (fun b hb _ => hk b hb) (fun _ _ _ => rfl), r3⟩
  | nest ty tyI szI rows => exact nest_stay ho (fun _ _ => rfl) (fun r _ xs h => h.mono (fun b hb _ => hk b hb) (fun _ _ _ => rfl))
  | box ty cs =>
    obtain ⟨gb, arr, r1, r3, r4, r5⟩ := ho
    exact ⟨gb, arr, r1, r3, r4, r5.mono fun _ _ h => h.mono (fun b hb _ => hk b hb) (fun _ _ _ => rfl)⟩
theorem Held.nil {ok : Nat → Prop} {H : Nat → Option OB} (g : Held ok φ H w) {d ty sz : Nat} {A : Option Addr} (hd : H d = none) : Held ok (upd φ d (.slice A 0 0)) (upd H d (some (.row ty sz []))) w ∧
    ∀ v x, RepV φ H w (okH ok φ H) v x → RepV (upd φ d (.slice A 0 0)) (upd H d (some (.row ty sz []))) w (okH ok (upd φ d (.slice A 0 0)) (upd H d (some (.row ty sz [])))) v x := by
  have hbn : ∀ {b}, ¬ Blk (.slice A 0 0) b := by intro b h; cases A <;> simp [Blk, blkOf] at h
  have hne : ∀ k, (H k).isSome = true → k ≠ d := fun k hk e => by rw [e, hd] at hk; cases hk
  have hk : ∀ b, okH ok φ H b → okH ok (upd φ d (.slice A 0 0)) (upd H d (some (.row ty sz []))) b := by
    intro b hb
    refine ⟨hb.1, fun k hs hbk => ?_⟩
    by_cases e : k = d
    · subst e; rw [upd_same] at hbk; exact hbn hbk
    · rw [upd_ne _ _ e] at hs hbk; exact hb.2 k hs hbk
  have tr : ∀ v x, RepV φ H w (okH ok φ H) v x → RepV (upd φ d (.slice A 0 0)) (upd H d (some (.row ty sz []))) w (okH ok (upd φ d (.slice A 0 0)) (upd H d (some (.row ty sz [])))) v x := by
    intro v x hr
    refine RepV.lift1 (p := fun _ => True) (fun _ _ _ _ => trivial) (fun _ _ _ _ => trivial) (fun v x hl _ hr => ?_) trivial hr
    have get : ∀ k ob, H k = some ob → upd H d (some (.row ty sz [])) k = some ob ∧ upd φ d (.slice A 0 0) k = φ k := by
      intro k ob hk
      have := hne k (by rw [hk]; rfl)
      exact ⟨by rw [upd_ne _ _ this]; exact hk, upd_ne _ _ this⟩
    cases v with
    | agg => simp [leafV] at hl
    | tup => simp [leafV] at hl
    | ptr k o => obtain ⟨ty, cs, g, h1, h2, r⟩ := hr; obtain ⟨e1, e2⟩ := get k _ h1; exact ⟨ty, cs, g, e1, by rw [e2]; exact h2, r⟩
    | eptr k i o => obtain ⟨ty, sz, es, g, m, c, h1, h2, r⟩ := hr; obtain ⟨e1, e2⟩ := get k _ h1; exact ⟨ty, sz, es, g, m, c, e1, by rw [e2]; exact h2, r⟩
    | nst k n => obtain ⟨ty, tyI, szI, rows, fs, h1, r⟩ := hr; obtain ⟨e1, e2⟩ := get k _ h1; exact ⟨ty, tyI, szI, rows, fs, e1, by rw [e2]; exact r⟩
    | nptr k i => obtain ⟨ty, tyI, szI, rows, g, m, c, fs, h1, h2, r⟩ := hr; obtain ⟨e1, e2⟩ := get k _ h1; exact ⟨ty, tyI, szI, rows, g, m, c, fs, e1, by rw [e2]; exact h2, r⟩
    | inr k i => obtain ⟨ty, tyI, szI, rows, fo, fs, h1, h2, r⟩ := hr; obtain ⟨e1, e2⟩ := get k _ h1; exact ⟨ty, tyI, szI, rows, fo, fs, e1, by rw [e2]; exact h2, r⟩
    | own k n => obtain ⟨ty, sz, es, A', m, c, h1, h2, r⟩ := hr; obtain ⟨e1, e2⟩ := get k _ h1; exact ⟨ty, sz, es, A', m, c, e1, by rw [e2]; exact h2, r⟩
    | osl k i n => obtain ⟨ty, sz, es, A', m, c, A2, c2, h1, h2, r⟩ := hr; obtain ⟨e1, e2⟩ := get k _ h1; exact ⟨ty, sz, es, A', m, c, A2, c2, e1, by rw [e2]; exact h2, r⟩
    | clo f hs =>
      obtain ⟨e, hall⟩ := hr
      refine ⟨?_, fun k hk => ?_⟩
      · rw [e]
        congr 2
        apply List.map_congr_left
        intro k hk
        obtain ⟨ty, cs, h1⟩ := hall k hk
        exact (get k _ h1).2.symm
      · obtain ⟨ty, cs, h1⟩ := hall k hk
        exact ⟨ty, cs, (get k _ h1).1⟩
    | junk => trivial
    | _ => exact RepV.of (((RepV.ro rfl).1 hr).weak hk)
  refine ⟨⟨fun h k b hne2 h1 h2 hb => ?_, fun h ob hob => ?_⟩, tr⟩
  · by_cases e1 : h = d
    · subst e1; rw [upd_same] at hb; exact absurd hb hbn
    · by_cases e2 : k = d
      · subst e2; rw [upd_same]; exact hbn
      · rw [upd_ne _ _ e1] at h1 hb
        rw [upd_ne _ _ e2] at h2 ⊢
        exact g.disj h k b hne2 h1 h2 hb
  · by_cases e : h = d
    · subst e
      rw [upd_same] at hob ⊢
      cases hob
      exact ⟨[], .inr ⟨rfl, rfl, _, rfl⟩, .nil, (by intro x hx; cases hx), (by intro e he; cases he)⟩
    · rw [upd_ne _ _ e] at hob ⊢
      have ho := g.own h ob hob
      cases ob with
      | row ty sz es =>
        obtain ⟨xs, r1, r2, r3⟩ := ho
        exact ⟨xs, r1, r2.mono (fun b hb _ => hk b hb) (fun _ _ _ => rfl), r3⟩
      | nest ty tyI szI rows => exact nest_stay ho (fun _ _ => rfl) (fun r _ xs h => h.mono (fun b hb _ => hk b hb) (fun _ _ _ => rfl))
      | box ty cs =>
        obtain ⟨gb, arr, r1, r3, r4, r5⟩ := ho
        exact ⟨gb, arr, r1, r3, r4, r5.mono fun _ _ h => tr _ _ h⟩
structure Goes (ok : Nat → Prop) (φ φ' : Nat → Value) (H H' : Nat → Option OB) (w : World) : Prop where
  held : Held ok φ' H' w
  same : ∀ k, (H k).isSome = true → φ' k = φ k ∧ (H' k).isSome = true
  blk : ∀ k b, (H' k).isSome = true → Blk (φ' k) b → (H k).isSome = true
  rep : ∀ v x, RepV φ H w (okH ok φ H) v x → RepV φ' H' w (okH ok φ' H') v x
mutual
theorem Conv.goes {ok : Nat → Prop} : ∀ {H H' : Nat → Option OB} {v r : AV} {φ : Nat → Value} {x : Value}, Conv H H' v r → Held ok φ H w → RepV φ H w (okH ok φ H) v x →
    ∃ φ', Goes ok φ φ' H H' w ∧ RepV φ' H' w (okH ok φ' H') r x
  | _, _, _, _, φ, _, .same, g, hr => ⟨φ, ⟨g, fun _ h => ⟨rfl, h⟩, fun _ _ h _ => h, fun _ _ h => h⟩, hr⟩
  | H, _, _, _, φ, x, .nil (d := d) (ty := ty) (sz := sz) hd _, g, hr => by
    have h2 : Rep w (okH ok φ H) .nil x := (RepV.ro rfl).1 hr
    cases h2 with
    | nil =>
      rename_i A
      obtain ⟨g2, tr⟩ := g.nil (ty := ty) (sz := sz) (A := A) hd
      refine ⟨_, ⟨g2, fun k hk => ?_, fun k b hk hb => ?_, tr⟩, ?_⟩
      · have : k ≠ d := fun e => by rw [e, hd] at hk; cases hk
        rw [upd_ne _ _ this, upd_ne _ _ this]; exact ⟨rfl, hk⟩
      · by_cases e : k = d
        · subst e; rw [upd_same] at hb; cases A <;> simp [Blk, blkOf] at hb
        · rw [upd_ne _ _ e] at hk; exact hk
      · exact ⟨ty, sz, [], A, 0, 0, upd_same _ _ _, upd_same _ _ _, Nat.le_refl _, rfl⟩
  | _, _, _, _, φ, x, .agg h, g, hr => by
    unfold RepV at hr
    obtain ⟨vs, rfl, hr⟩ := hr
    obtain ⟨φ', g2, hr2⟩ := Convs.goes h g hr
    exact ⟨φ', g2, by unfold RepV; exact ⟨vs, rfl, hr2⟩⟩
  | _, _, _, _, φ, x, .tup h, g, hr => by
    unfold RepV at hr
    obtain ⟨vs, rfl, hr⟩ := hr
    obtain ⟨φ', g2, hr2⟩ := Convs.goes h g hr
    exact ⟨φ', g2, by unfold RepV; exact ⟨vs, rfl, hr2⟩⟩
theorem Convs.goes {ok : Nat → Prop} : ∀ {H H' : Nat → Option OB} {cs rs : List AV} {φ : Nat → Value} {vs : List Value}, Convs H H' cs rs → Held ok φ H w → RepVs φ H w (okH ok φ H) cs vs →
    ∃ φ', Goes ok φ φ' H H' w ∧ RepVs φ' H' w (okH ok φ' H') rs vs
  | _, _, _, _, φ, _, .nil, g, hr => ⟨φ, ⟨g, fun _ h => ⟨rfl, h⟩, fun _ _ h _ => h, fun _ _ h => h⟩, hr⟩
  | _, _, _, _, φ, vs, .cons h t, g, hr => by
    unfold RepVs at hr
    obtain ⟨v, us, rfl, h1, h2⟩ := hr
    obtain ⟨φ1, g1, r1⟩ := Conv.goes h g h1
    have h3 := RepVs_iff.1 h2
    obtain ⟨φ2, g2, r2⟩ := Convs.goes t g1.held (RepVs_iff.2 (h3.mono fun _ _ h => g1.rep _ _ h))
    refine ⟨φ2, ⟨g2.held, fun k hk => ?_, fun k b hk hb => ?_, fun v x h => g2.rep _ _ (g1.rep _ _ h)⟩, ?_⟩
    · obtain ⟨e1, e2⟩ := g1.same k hk
      obtain ⟨e3, e4⟩ := g2.same k e2
      exact ⟨e3.trans e1, e4⟩
    · have hk1 := g2.blk k b hk hb
      exact g1.blk k b hk1 (by rw [← (g2.same k hk1).1]; exact hb)
    · unfold RepVs
      exact ⟨v, us, rfl, g2.rep _ _ r1, r2⟩
end
mutual
theorem Conv.small : ∀ {H H' : Nat → Option OB} {v r : AV} {k : Nat}, Conv H H' v r → 1000000 ≤ k → H k = none → H' k = none
  | _, _, _, _, _, .same, _, h => h
  | _, _, _, _, k, .nil (d := d) _ hd, hk, h => by rw [upd_ne _ _ (by omega)]; exact h
  | _, _, _, _, _, .agg h, hk, hn => Convs.small h hk hn
  | _, _, _, _, _, .tup h, hk, hn => Convs.small h hk hn
theorem Convs.small : ∀ {H H' : Nat → Option OB} {v r : List AV} {k : Nat}, Convs H H' v r → 1000000 ≤ k → H k = none → H' k = none
  | _, _, _, _, _, .nil, _, h => h
  | _, _, _, _, _, .cons h t, hk, hn => Convs.small t hk (Conv.small h hk hn)
end
theorem Held.weak {ok : Nat → Prop} {H H' : Nat → Option OB} (g : Held ok φ H w) (hH : WeakH H H') : Held ok φ H' w ∧ ∀ v x, RefsIn H' v → RepV φ H w (okH ok φ H) v x → RepV φ H' w (okH ok φ H') v x := by
  have hs : ∀ h, (H' h).isSome = true → (H h).isSome = true := by
    intro h hh
    obtain ⟨ob, hob⟩ := Option.isSome_iff_exists.1 hh
    rw [(hH h ob hob).1]; rfl
  have hk : ∀ b, okH ok φ H b → okH ok φ H' b := fun b hb => ⟨hb.1, fun h hh => hb.2 h (hs h hh)⟩
  refine ⟨⟨fun h k b hne h1 h2 => g.disj h k b hne (hs h h1) (hs k h2), fun h ob hob => ?_⟩, fun v x hr h => h.less (fun h ob h' => (hH h ob h').1) hk hr⟩
  obtain ⟨h1, h2⟩ := hH h ob hob
  have ho := g.own h ob h1
  cases ob with
  | row ty sz es =>
    obtain ⟨xs, r1, r2, r3⟩ := ho
    exact ⟨xs, r1, Reps.mono (fun b hb _ => hk b hb) (fun _ _ _ => rfl) r2, r3⟩
  | nest ty tyI szI rows => exact nest_stay ho (fun _ _ => rfl) (fun r _ xs h => h.mono (fun b hb _ => hk b hb) (fun _ _ _ => rfl))
  | box ty cs =>
    obtain ⟨gb, arr, r1, r3, r4, r5⟩ := ho
    exact ⟨gb, arr, r1, r3, r4, r5.1, fun i x v hx hv => (r5.2 i x v hx hv).less (fun h ob h' => (hH h ob h').1) hk (h2 ty cs rfl x (List.mem_of_getElem? hx))⟩
theorem denXR_of_good {f : Nat} {fn : Func} {c : Code} {pre : List (Nat × OB)} {args : List AV} {τ : Type} {R : τ → Prop} {post : τ → List (Nat × OB)} {r : τ → AV} (hf : P.funcs[f]? = some fn) (hname : (fn.name == "runtime.NumGoroutine") = false) (hb : fn.body = some c) (hl : args.length ≤ fn.ntmps) (hsm : fn.ntmps ≤ 1000000)
    (hpre : (pre.all fun p => decide (1000000 ≤ p.1)) = true)
    (h : Good P fn.ntmps c (fun e s => match e with
      | .normal => ∃ x, R x ∧ finX P s fn.results.toList (post x) (r x)
      | .ret => ∃ x, R x ∧ finX P s fn.results.toList (post x) (r x)
      | _ => False) { env := initE 0 args, H := hof pre }) : DenXR P f pre args R post r := by
  refine ⟨⟨fn, hf, hname, by rw [hb]; rfl⟩, fun w ok φ vs hglb hheld hold hvs => calls_of_wp hf hb ?_⟩
  let C : Ctx P := { w0 := w, ok0 := ok, N := fn.ntmps, M := fun b => ∃ h, (hof pre h).isSome = true ∧ Blk (φ h) b, φ0 := φ, small := hsm, glb := hglb.mono (fun b hb _ => ⟨hb.1, fun ⟨h, hs, hb2⟩ => hb.2 h hs hb2⟩) (fun _ _ _ => rfl) }
  have hlen : vs.length = args.length := hvs.1
  have hok : ∀ b, okH ok φ (hof pre) b → okG C φ (hof pre) b := fun b hb => ⟨.inl hb.1, hb.2⟩
  have g : GamW C { env := initE 0 args, H := hof pre } φ { tmps := vs.toArray ++ Array.replicate (fn.ntmps - vs.toArray.size) undef, defers := [] } w := by
    refine ⟨(by simp [C]; omega), rfl, BelowM.refl _ _, fun h b hs hb => .inl ⟨h, hs, hb⟩, fun _ _ _ => rfl, hheld.disj, fun h ob hob => ?_, fun t => ?_⟩
    · have ho := hheld.own h ob hob
      cases ob with
      | row ty sz es =>
        obtain ⟨xs, r1, r2, r3⟩ := ho
        exact ⟨xs, r1, r2.mono (fun b hb _ => hok b hb) (fun _ _ _ => rfl), r3⟩
      | nest ty tyI szI rows => exact nest_stay ho (fun _ _ => rfl) (fun r _ xs h => h.mono (fun b hb _ => hok b hb) (fun _ _ _ => rfl))
      | box ty cs =>
        obtain ⟨gb, arr, r1, r3, r4, r5⟩ := ho
        exact ⟨gb, arr, r1, r3, r4, r5.mono fun _ _ h => h.mono (fun b hb _ => hok b hb) (fun _ _ _ => rfl)⟩
    · simp only [initE_get, Nat.sub_zero, Nat.not_lt_zero, if_false]
      by_cases ht : t < args.length
      · have h1 : args[t]? = some args[t] := List.getElem?_eq_getElem ht
        obtain ⟨v, hv, hr⟩ := hvs.get h1
        have e1 : args.getD t .junk = args[t] := by simp [List.getD, h1]
        have e2 : (vs.toArray ++ Array.replicate (fn.ntmps - vs.toArray.size) undef).getD t undef = v := by
          simp only [Array.getD_eq_getD_getElem?]
          rw [Array.getElem?_append_left (by simp; omega)]
          simp [hv]
        rw [e1, e2]
        exact hr.mono (fun b hb _ => hok b hb) (fun _ _ _ => rfl)
      · have e1 : args.getD t .junk = .junk := by simp [List.getD, List.getElem?_eq_none (Nat.le_of_not_lt ht)]
        rw [e1]; trivial
  refine wp_mono (h C rfl _ w ⟨_, g⟩) ?_
  intro e a' w' ⟨s, hq, φ1, g'⟩
  have fin : (∃ x, R x ∧ finX P s fn.results.toList (post x) (r x)) → bodyPost P fn (fun e w' => ∃ x v φ', R x ∧ e = .returned v ∧
      BelowM (fun b => ∃ h, (hof pre h).isSome = true ∧ Blk (φ h) b) w w' ∧
      (∀ h, (hof pre h).isSome = true → (hof (post x) h).isSome = true → φ' h = φ h) ∧
      (∀ h b, (hof (post x) h).isSome = true → Blk (φ' h) b → w.heap.size ≤ b ∨ ∃ k, (hof pre k).isSome = true ∧ Blk (φ k) b) ∧
      Held (fun b => ok b ∨ w.heap.size ≤ b) φ' (hof (post x)) w' ∧
      RepV φ' (hof (post x)) w' (okH (fun b => ok b ∨ w.heap.size ≤ b) φ' (hof (post x))) (r x) v) .ret a' w' := by
    rintro ⟨xx, hR, hq⟩
    obtain ⟨v, x, ⟨H1, hcv, hwk, hrf⟩, h2, h3⟩ := resX_sound g' hq
    have hh := g'.held (ok := fun b => ok b ∨ w.heap.size ≤ b) (fun b hb => hb)
    obtain ⟨φ2, g2, hr2⟩ := Conv.goes hcv hh (h2.mono (fun b hb _ => ⟨hb.1, hb.2⟩) (fun _ _ _ => rfl))
    obtain ⟨g3, tr⟩ := g2.held.weak hwk
    have hs : ∀ h, (hof (post xx) h).isSome = true → (H1 h).isSome = true := by
      intro h hh
      obtain ⟨ob, hob⟩ := Option.isSome_iff_exists.1 hh
      rw [(hwk h ob hob).1]; rfl
    refine ⟨g'.defers, x, h3, xx, x, φ2, hR, rfl, g'.below, fun k h4 h5 => ?_, fun k b h4 hb => ?_, g3, tr _ _ hrf hr2⟩
    · have hge : 1000000 ≤ k := by
        obtain ⟨ob, hob⟩ := Option.isSome_iff_exists.1 h4
        simpa using List.all_eq_true.1 hpre _ (hof_mem hob)
      by_cases h6 : (s.H k).isSome = true
      · rw [(g2.same k h6).1]; exact g'.keep k hge h6
      · have h7 := hcv.small hge (by simpa using h6)
        have h8 := hs k h5
        rw [h7] at h8; cases h8
    · have h5 := g2.blk k b (hs k h4) hb
      rw [(g2.same k h5).1] at hb
      rcases g'.mine k b h5 hb with h | h
      · exact .inr h
      · exact .inl h
  cases e with
  | normal => exact fin hq
  | ret => exact fin hq
  | _ => exact hq.elim
theorem denX_of_good {f : Nat} {fn : Func} {c : Code} {pre post : List (Nat × OB)} {args : List AV} {r : AV} (hf : P.funcs[f]? = some fn) (hname : (fn.name == "runtime.NumGoroutine") = false) (hb : fn.body = some c) (hl : args.length ≤ fn.ntmps) (hsm : fn.ntmps ≤ 1000000)
    (hpre : (pre.all fun p => decide (1000000 ≤ p.1)) = true)
    (h : Good P fn.ntmps c (fun e s => match e with
      | .normal => finX P s fn.results.toList post r
      | .ret => finX P s fn.results.toList post r
      | _ => False) { env := initE 0 args, H := hof pre }) : DenX P f pre args post r :=
  denXR_of_good hf hname hb hl hsm hpre (good_mono h fun e s hq => by
    cases e with
    | normal => exact ⟨(), trivial, hq⟩
    | ret => exact ⟨(), trivial, hq⟩
    | _ => exact hq.elim)
end
end
end Go.Proofs.Ytdnndlalflahhaa.Ev
