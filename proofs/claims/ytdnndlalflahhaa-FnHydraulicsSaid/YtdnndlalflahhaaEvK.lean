/- Statements: the operations in their order, and in whatever order. -/
import Derived.Test.YtdnndlalflahhaaEvJ
set_option linter.unusedVariables false
set_option linter.unusedSimpArgs false
namespace Go.Proofs.Ytdnndlalflahhaa.Ev
open Go Go.RowKit
def skippedA (ops : Array Oper) (st : St) (j : Nat) : Bool :=
  match (ops[j]?).bind (·.dst) with
  | some d => match st.env d with
    | .tup [] => true
    | _ => false
  | none => false
theorem GamW.skipped {P : Program} {C : Ctx P} {st : St} {φ : Nat → Value} {a : Act} {w : World} (g : GamW C st φ a w) {ops : Array Oper} {j : Nat} (h : skippedA ops st j = true) : Go.yielded ops a.tmps j = none := by
  unfold skippedA at h
  cases hd : (ops[j]?).bind (·.dst) with
  | none => simp [hd] at h
  | some d =>
    simp only [hd] at h
    split at h
    · rename_i hb
      have hr := g.rep d
      rw [hb] at hr
      have hr' : a.tmps.getD d undef = .tuple #[] := by
        have h2 : Rep w (okG C φ st.H) (.tup []) (a.tmps.getD d undef) := (RepV.ro rfl).1 hr
        generalize a.tmps.getD d undef = z at h2
        cases h2 with
        | tup h => cases h; rfl
      simp only [Array.getD_eq_getD_getElem?] at hr'
      unfold Go.yielded
      rw [hd]
      simp only [Option.bind_some]
      cases ht : a.tmps[d]? with
      | none => rfl
      | some x => rw [ht] at hr'; simp at hr'; subst hr'; rfl
    · cases h
def wantedA (ops : Array Oper) (o : Oper) (st : St) : Option Bool :=
  match o.guard with
  | none => some true
  | some (j, want) => match yieldedA ops st j with
    | some b => some (b == want)
    | none => if skippedA ops st j = true then some false else none
def guardA (ops : Array Oper) (o : Oper) (st : St) (Kt Kf : Prop) : Prop :=
  match wantedA ops o st with
  | some b => if b = true then Kt else Kf
  | none => False
structure Stop (p : Prop) : Prop where
  out : p
def StepN (P : Program) (st : St) (o : Oper) (K : St → Prop) : Prop := ∀ (C : Ctx P) (φ : Nat → Value) (a : Act) (w : World), GamW C st φ a w → (∀ d, o.dst = some d → d < C.N) →
  ∀ (next : Act → World → Prop) (Q : Exit → Act → World → Prop), (∀ st' a' w', K st' → Gam C st' a' w' → next a' w') → o.wp P a w next Q
def EVops (P : Program) (ops : Array Oper) (Q : St → Prop) : List Oper → St → Prop
  | [], st => Stop (Q st)
  | o :: rest, st => Stop (guardA ops o st (opK P st o (EVops P ops Q rest) ∨ StepN P st o (EVops P ops Q rest)) (EVops P ops Q rest (st.put o.dst (.tup []))))
def dstsOk (N : Nat) (l : List Oper) : Bool := l.all fun o => match o.dst with
  | some d => decide (d < N)
  | none => true
section
variable {P : Program} {C : Ctx P} {a : Act} {w : World} {ops : Array Oper}
theorem dstsOk_mem {N : Nat} {l : List Oper} (h : dstsOk N l = true) {o : Oper} (ho : o ∈ l) : ∀ d, o.dst = some d → d < N := by
  intro d hd
  have := List.all_eq_true.1 h o ho
  simp only [hd, decide_eq_true_eq] at this
  exact this
theorem Gam.wanted {st : St} (g : Gam C st a w) {o : Oper} {b : Bool} (h : wantedA ops o st = some b) : Region.wanted o (yielded ops a.tmps) = b := by
  obtain ⟨φ, g⟩ := g
  unfold wantedA at h
  unfold Region.wanted
  split at h
  · rename_i hg; cases h; simp [hg]
  · rename_i j want hg
    cases hy : yieldedA ops st j with
    | none =>
      rw [hy] at h
      simp only at h
      split at h
      · rename_i hs
        cases h
        simp only [hg, GamW.skipped g hs]
        rfl
      · cases h
    | some c =>
      rw [hy] at h
      cases h
      simp only [hg, g.yielded hy]
      cases c <;> cases want <;> rfl
theorem Gam.put_junk {st : St} (g : Gam C st a w) (dst : Option Tmp) (hd : ∀ d, dst = some d → d < C.N) : Gam C (st.put dst (.tup [])) (a.put dst undef) w := by
  obtain ⟨φ, g⟩ := g
  exact ⟨φ, g.put (v := .tup []) (x := undef) (RepV.of (Rep.tup (vs := []) .nil)) dst hd⟩
theorem guardA_some {o : Oper} {st : St} {Kt Kf : Prop} (h : guardA ops o st Kt Kf) : (wantedA ops o st = some true ∧ Kt) ∨ (wantedA ops o st = some false ∧ Kf) := by
  unfold guardA at h
  split at h
  · rename_i b hb
    cases b
    · exact .inr ⟨hb, by simpa using h⟩
    · exact .inl ⟨hb, by simpa using h⟩
  · exact h.elim
theorem EVops_sound {Q : St → Prop} {Q' : Exit → Act → World → Prop} (hQ : ∀ st a w, Q st → Gam C st a w → Q' .normal a w) :
    ∀ (l : List Oper) (st : St) (a : Act) (w : World), dstsOk C.N l = true → EVops P ops Q l st → Gam C st a w → wpList P ops Q' l a w
  | [], st, a, w, _, h, g => hQ st a w (Stop.out h) g
  | o :: rest, st, a, w, hN, h, g => by
    have hN1 := dstsOk_mem hN (o := o) (by simp)
    have hN2 : dstsOk C.N rest = true := by simp only [dstsOk, List.all_cons, Bool.and_eq_true] at hN; exact hN.2
    rcases guardA_some (Stop.out h) with ⟨hw, hk⟩ | ⟨hw, hk⟩
    · have := g.wanted hw
      unfold wpList
      rw [this]
      simp only [if_true]
      obtain ⟨φ, g⟩ := g
      rcases hk with hk | hk
      · exact .inl (opK_step g hN1 hk fun st' a' w' hK hG => EVops_sound hQ rest st' a' w' hN2 hK hG)
      · exact .inl (hk _ _ _ _ g hN1 _ _ fun st' a' w' hK hG => EVops_sound hQ rest st' a' w' hN2 hK hG)
    · have := g.wanted hw
      unfold wpList
      rw [this]
      simp only [Bool.false_eq_true, if_false]
      exact EVops_sound hQ rest _ _ _ hN2 hk (g.put_junk o.dst hN1)
/-! ### Whatever order -/
def YA (P : Program) (ops : Array Oper) (o : Oper) (v : AV) (st : St) : Prop :=
  (wantedA ops o st = some true ∧ opQ P st o.op (fun u => u = v)) ∨ (wantedA ops o st = some false ∧ v = .tup [])
def QOps (P : Program) (ops : Array Oper) (Q : St → Prop) : List Oper → St → Prop
  | [], st => Stop (Q st)
  | o :: rest, st => Stop (guardA ops o st (opQ P st o.op fun v => QOps P ops Q rest (st.put o.dst v)) (QOps P ops Q rest (st.put o.dst (.tup []))))
def stS (st : St) : List (Oper × AV) → (Nat → Bool) → St
  | [], _ => st
  | (o, v) :: r, S => stS (if S 0 = true then st.put o.dst v else st) r fun i => S (i + 1)
theorem put_env (st : St) (dst : Option Tmp) (v : AV) (t : Nat) : (st.put dst v).env t = if dst = some t then v else st.env t := by
  cases dst with
  | none => simp [St.put]
  | some d =>
    simp only [St.put]
    by_cases h : t = d
    · subst h; simp [upd_same]
    · rw [upd_ne _ _ h, if_neg (by simpa using fun e => h e.symm)]
theorem put_H (st : St) (dst : Option Tmp) (v : AV) : (st.put dst v).H = st.H := by cases dst <;> rfl
theorem stS_H : ∀ (ps : List (Oper × AV)) (st : St) (S : Nat → Bool), (stS st ps S).H = st.H
  | [], _, _ => rfl
  | (o, v) :: r, st, S => by
    simp only [stS]
    rw [stS_H r]
    split
    · exact put_H _ _ _
    · rfl
theorem stS_congr : ∀ (ps : List (Oper × AV)) (st st' : St) (S S' : Nat → Bool) (t : Nat), st.env t = st'.env t →
    (∀ (i : Nat) o v, ps[i]? = some (o, v) → o.dst = some t → S i = S' i) → (stS st ps S).env t = (stS st' ps S').env t
  | [], _, _, _, _, _, h, _ => h
  | (o, v) :: r, st, st', S, S', t, h, hS => by
    simp only [stS]
    refine stS_congr r _ _ _ _ t ?_ (fun i o' v' hi hd => hS (i + 1) o' v' (by simpa using hi) hd)
    by_cases hd : o.dst = some t
    · rw [hS 0 o v rfl hd]
      split
      · rw [put_env, put_env, if_pos hd, if_pos hd]
      · exact h
    · have e1 : (if S 0 = true then st.put o.dst v else st).env t = st.env t := by
        split
        · rw [put_env, if_neg hd]
        · rfl
      have e2 : (if S' 0 = true then st'.put o.dst v else st').env t = st'.env t := by
        split
        · rw [put_env, if_neg hd]
        · rfl
      rw [e1, e2, h]
theorem stS_last : ∀ (ps : List (Oper × AV)) (st : St) (S : Nat → Bool) (t i : Nat) (o : Oper) (v : AV), ps[i]? = some (o, v) → o.dst = some t → S i = true →
    (∀ (j : Nat) o' v', i < j → ps[j]? = some (o', v') → o'.dst = some t → S j = false) → (stS st ps S).env t = v
  | [], _, _, _, i, _, _, h, _, _, _ => by simp at h
  | (o1, v1) :: r, st, S, t, i, o, v, h, hd, hs, hl => by
    simp only [stS]
    cases i with
    | zero =>
      simp at h
      obtain ⟨rfl, rfl⟩ := h
      rw [if_pos hs]
      have := stS_congr r (st.put o1.dst v1) (st.put o1.dst v1) (fun i => S (i + 1)) (fun _ => false) t rfl (fun j o' v' hj hd' => hl (j + 1) o' v' (by omega) (by simpa using hj) hd')
      rw [this]
      have hnone : ∀ (r : List (Oper × AV)) (st : St), (stS st r fun _ => false) = st := by
        intro r
        induction r with
        | nil => intro st; rfl
        | cons p r ih => intro st; obtain ⟨p1, p2⟩ := p; simp only [stS]; exact ih st
      rw [hnone, put_env, if_pos hd]
    | succ i =>
      exact stS_last r _ _ t i o v (by simpa using h) hd hs fun j o' v' hij hj hd' => hl (j + 1) o' v' (by omega) (by simpa using hj) hd'
theorem stS_add {ps : List (Oper × AV)} {st : St} {S : Nat → Bool} {i : Nat} {o : Oper} {v : AV} (h : ps[i]? = some (o, v)) (hs : S i = false)
    (hl : ∀ (j : Nat) o' v' t, i < j → ps[j]? = some (o', v') → o.dst = some t → o'.dst = some t → S j = false) :
    stS st ps (fun k => if k = i then true else S k) = (stS st ps S).put o.dst v := by
  have hH : (stS st ps (fun k => if k = i then true else S k)).H = ((stS st ps S).put o.dst v).H := by rw [put_H, stS_H, stS_H]
  have hE : (stS st ps (fun k => if k = i then true else S k)).env = ((stS st ps S).put o.dst v).env := by
    funext t
    rw [put_env]
    by_cases hd : o.dst = some t
    · rw [if_pos hd]
      exact stS_last ps st _ t i o v h hd (by simp) fun j o' v' hij hj hd' => by simp [show j ≠ i by omega]; exact hl j o' v' t hij hj hd hd'
    · rw [if_neg hd]
      refine stS_congr ps st st _ _ t rfl fun j o' v' hj hd' => ?_
      by_cases hji : j = i
      · subst hji; rw [h] at hj; cases hj; exact absurd hd' hd
      · simp [hji]
  cases hA : stS st ps (fun k => if k = i then true else S k) with
  | mk e1 h1 => cases hB : (stS st ps S).put o.dst v with
    | mk e2 h2 => rw [hA, hB] at hE hH; simp only at hE hH; subst hE hH; rfl
/-! ### What an operation looks at -/
theorem mem_args {c : Call} {x : Operand} (h : x ∈ c.args.toList) : x ∈ c.operands := by
  simp only [Call.operands]
  exact Array.mem_append.2 (.inr (by simpa using h))
theorem map_ev_congr {st st' : St} {xs : List Operand} (h : ∀ x ∈ xs, st.ev x = st'.ev x) : xs.map st.ev = xs.map st'.ev := List.map_congr_left h
theorem biQ_congr {st st' : St} {c : Call} (h : ∀ x ∈ c.operands, st.ev x = st'.ev x) (K : AV → Prop) : biQ P st c K = biQ P st' c K := by
  unfold biQ
  split
  · rename_i x t e1 e2 e3; rw [h x (mem_args (by rw [e2]; simp))]
  · rename_i x y e1 e2; rw [h x (mem_args (by rw [e2]; simp)), h y (mem_args (by rw [e2]; simp))]
  · rename_i x y e1 e2; rw [h x (mem_args (by rw [e2]; simp)), h y (mem_args (by rw [e2]; simp))]
  · rfl
theorem opQ_congr {st st' : St} {op : Op} (hH : st.H = st'.H) (h : ∀ x ∈ op.operands, st.ev x = st'.ev x) (K : AV → Prop) : opQ P st op K = opQ P st' op K := by
  unfold opQ
  split
  · rename_i c
    have h' : ∀ x ∈ c.operands, st.ev x = st'.ev x := h
    split
    · rename_i f hf
      have e1 : st.ev f = st'.ev f := h' f (by simp [Call.operands, hf])
      have e2 : c.args.toList.map st.ev = c.args.toList.map st'.ev := map_ev_congr fun x hx => h' x (mem_args hx)
      unfold callQ
      simp only [hf, e1, e2, hH]
    · exact biQ_congr h' K
  · rename_i hc
    unfold opQ0
    split <;> (try (rename_i c'; first | exact (hc _ rfl).elim | skip))
    all_goals
      try simp only [Op.operands, Array.mem_append, List.mem_toArray, List.mem_cons, List.not_mem_nil, or_false, forall_eq_or_imp, forall_eq] at h
    all_goals first
      | rfl
      | (rw [h, hH]; done)
      | (rw [h]; done)
      | (rw [h.1, h.2, hH]; done)
      | (rw [h.1, h.2]; done)
      | (rw [h.1, h.2.1, h.2.2]; done)
      | skip
    · rw [map_ev_congr (xs := c'.toList) fun x hx => h x (.inr (by simpa using hx))]
    · rename_i t x lo hi
      have e0 : st.ev x = st'.ev x := h x (.inl (.inl (.inl rfl)))
      have e1 : lo.map st.ev = lo.map st'.ev := by cases lo with
        | none => rfl
        | some y => simp [h y (.inl (.inl (.inr (by simp))))]
      have e2 : hi.map st.ev = hi.map st'.ev := by cases hi with
        | none => rfl
        | some y => simp [h y (.inl (.inr (by simp)))]
      have e3 : c'.map st.ev = c'.map st'.ev := by cases c' with
        | none => rfl
        | some y => simp [h y (.inr (by simp))]
      rw [e0, e1, e2, e3, hH]
/-! ### The one value that an operation yields -/
theorem Let_ex {α : Type} {e : α} {F : α → AV} {K : AV → Prop} (h : Let e fun r => K (F r)) : ∃ v, K v ∧ Let e fun r => F r = v := ⟨F e, h.out, fun r hr => by rw [hr]⟩
theorem headQ_ex {cs : List AV} {K : AV → Prop} (h : headQ cs K) : ∃ v, K v ∧ headQ cs fun u => u = v := by
  cases cs with
  | nil => exact h.elim
  | cons c cs => exact ⟨c, h, rfl⟩
theorem ptrQ_ex {H : Nat → Option OB} {x : AV} {K : List AV → Prop} (h : ptrQ H x K) : ∃ cs, K cs ∧ ptrQ H x fun u => u = cs := by
  unfold ptrQ at h ⊢
  split at h
  · exact ⟨_, h, rfl⟩
  · split at h
    · rename_i h1; (try simp only [h1]); exact ⟨_, h, rfl⟩
    · exact h.elim
  · split at h
    · rename_i h1; obtain ⟨e, he, hK⟩ := h; (try simp only [h1]); exact ⟨_, hK, e, he, rfl⟩
    · exact h.elim
  · exact ⟨_, h, rfl⟩
  · exact h.elim
theorem ptrQ_mono {H : Nat → Option OB} {x : AV} {K K' : List AV → Prop} (hk : ∀ cs, K cs → K' cs) (h : ptrQ H x K) : ptrQ H x K' := by
  unfold ptrQ at h ⊢
  split at h
  · exact hk _ h
  · split at h
    · rename_i h1; (try simp only [h1]); exact hk _ h
    · exact h.elim
  · split at h
    · rename_i h1; obtain ⟨e, he, hK⟩ := h; (try simp only [h1]); exact ⟨e, he, hk _ hK⟩
    · exact h.elim
  · exact hk _ h
  · exact h.elim
theorem loadQ_ex {H : Nat → Option OB} {t : TypeId} {x : AV} {K : AV → Prop} (h : loadQ P H t x K) : ∃ v, K v ∧ loadQ P H t x fun u => u = v := by
  unfold loadQ at h ⊢
  split at h
  · rename_i n hn
    obtain ⟨cs, ⟨h1, hK⟩, h3⟩ := ptrQ_ex h
    exact ⟨_, hK, ptrQ_mono (fun cs' e => by subst e; exact ⟨h1, rfl⟩) h3⟩
  · rename_i hn
    (try simp only [hn])
    obtain ⟨cs, hK, h3⟩ := ptrQ_ex h
    obtain ⟨v, hv, hc⟩ := headQ_ex hK
    exact ⟨v, hv, ptrQ_mono (fun cs' e => by subst e; exact hc) h3⟩
  · exact h.elim
theorem intBin_ex {op : BinOp} {k : IntKind} {x y : Int} {K : AV → Prop} (h : intBin op k x y K) : ∃ v, K v ∧ intBin op k x y fun u => u = v := by
  cases op <;> simp only [intBin] at h ⊢ <;> first | exact Let_ex h | (obtain ⟨v, h1, h2⟩ := Let_ex h.2; exact ⟨v, h1, h.1, h2⟩)
theorem ifcBin_ex {op : BinOp} {t : TypeId} {b : Bool} {K : AV → Prop} (h : ifcBin P op t b K) : ∃ v, K v ∧ ifcBin P op t b fun u => u = v := by
  obtain ⟨h1, h2⟩ := h
  cases op <;> first
    | exact h2.elim
    | (obtain ⟨v, h3, h4⟩ := Let_ex h2; exact ⟨v, h3, h1, h4⟩)
theorem binQ_ex {lit : Bool} {op : BinOp} {t : TypeId} {x y : AV} {K : AV → Prop} (h : binQ P lit op t x y K) : ∃ v, K v ∧ binQ P lit op t x y fun u => u = v := by
  unfold binQ at h ⊢
  split at h
  · exact ifcBin_ex h
  · obtain ⟨h1, h2⟩ := h
    obtain ⟨v, hv, h3⟩ := ifcBin_ex h2
    exact ⟨v, hv, h1, h3⟩
  · obtain ⟨h1, h2⟩ := h
    obtain ⟨v, hv, h3⟩ := intBin_ex h2
    exact ⟨v, hv, h1, h3⟩
  · cases op <;> simp only [strBin] at h ⊢ <;> first | exact Let_ex h | (obtain ⟨v, h1, h2⟩ := Let_ex h.2; exact ⟨v, h1, h.1, h2⟩) | exact h.elim
  · obtain ⟨h1, h2⟩ := h
    cases op <;> first
      | exact h2.elim
      | (obtain ⟨v, h3, h4⟩ := Let_ex h2; exact ⟨v, h3, h1, h4⟩)
  · obtain ⟨ts, r, i1, i2, h0, h1, h2⟩ := h
    cases op <;> first
      | exact h2.elim
      | (obtain ⟨v, h3, h4⟩ := Let_ex h2; exact ⟨v, h3, ts, r, i1, i2, h0, h1, h4⟩)
  · exact h.elim
theorem idxQ_ex {H : Nat → Option OB} {t : TypeId} {x i : AV} {K : AV → Prop} (h : idxQ P H t x i K) : ∃ v, K v ∧ idxQ P H t x i fun u => u = v := by
  unfold idxQ at h ⊢
  split at h
  · split at h
    · rename_i h1
      (try simp only [h1])
      split at h
      · obtain ⟨h2, h3, e, he, hK⟩ := h; exact ⟨_, hK, h2, h3, e, he, rfl⟩
      · split at h
        · rename_i h4; obtain ⟨h2, h3, h5, hK⟩ := h; (try simp only [h4]); exact ⟨_, hK, h2, h3, h5, rfl⟩
        · exact h.elim
      · split at h
        · rename_i h4; obtain ⟨h2, h3, h5, hK⟩ := h; (try simp only [h4]); exact ⟨_, hK, h2, h3, h5, rfl⟩
        · exact h.elim
      · obtain ⟨h2, h3, h5, hK⟩ := h; exact ⟨_, hK, h2, h3, h5, rfl⟩
      · exact h.elim
    · rename_i h1
      (try simp only [h1])
      split at h
      · rename_i h2
        (try simp only [h2])
        split at h
        · obtain ⟨h3, h4, hK⟩ := h; exact ⟨_, hK, h3, h4, rfl⟩
        · obtain ⟨h3, h4, hK⟩ := h; exact ⟨_, hK, h3, h4, rfl⟩
        · exact h.elim
      · exact h.elim
  · exact h.elim
theorem partQ_ex {cs : List AV} {o : Nat} {g : Option Nat} {K : AV → Prop} (h : partQ cs o g K) : ∃ v, K v ∧ partQ cs o g fun u => u = v := by
  unfold partQ at h ⊢
  split at h
  · exact ⟨_, h.2, h.1, rfl⟩
  · exact headQ_ex h
theorem sliceQ_ex {H : Nat → Option OB} {t : TypeId} {x : AV} {lo hi mx : Option AV} {K : AV → Prop} (h : sliceQ P H t x lo hi mx K) : ∃ v, K v ∧ sliceQ P H t x lo hi mx fun u => u = v := by
  unfold sliceQ at h ⊢
  split at h
  · obtain ⟨h1, h2, h⟩ := h
    split at h
    · rename_i e1 e2; obtain ⟨h3, h4, h5, hK⟩ := h; (try simp only [e1, e2]); obtain ⟨v, q1, q2⟩ := Let_ex hK; exact ⟨v, q1, h1, h2, h3, h4, h5, q2⟩
    · exact h.elim
  · split at h
    · rename_i e0
      obtain ⟨h1, h2, h⟩ := h
      split at h
      · rename_i e1 e2; obtain ⟨h3, h4, h5, hK⟩ := h; (try simp only [e0, e1, e2]); obtain ⟨v, q1, q2⟩ := Let_ex hK; exact ⟨v, q1, h1, h2, h3, h4, h5, q2⟩
      · exact h.elim
    · exact h.elim
  · split at h
    · rename_i e0 e0'
      obtain ⟨h1, h2, h⟩ := h
      split at h
      · rename_i e1 e2; obtain ⟨h3, h4, h5, hK⟩ := h; (try simp only [e0, e0', e1, e2]); exact ⟨_, hK, h1, h2, h3, h4, h5, rfl⟩
      · exact h.elim
    · exact h.elim
  · split at h
    · rename_i e0 e0'
      obtain ⟨h1, h2, h⟩ := h
      split at h
      · rename_i e1 e2; obtain ⟨h3, h4, h5, hK⟩ := h; (try simp only [e0, e0', e1, e2]); exact ⟨_, hK, h1, h2, h3, h4, h5, rfl⟩
      · exact h.elim
    · exact h.elim
  · exact h.elim
theorem biQ_ex {st : St} {c : Call} {K : AV → Prop} (h : biQ P st c K) : ∃ v, K v ∧ biQ P st c fun u => u = v := by
  unfold biQ at h ⊢
  split at h
  · unfold lenQ at h ⊢
    split at h <;> first | (obtain ⟨v, q1, q2⟩ := Let_ex h.2; exact ⟨v, q1, h.1, q2⟩) | exact ⟨_, h.2, h.1, rfl⟩ | exact h.elim
  · unfold mm2Q at h ⊢
    split at h <;> first | exact Let_ex h | exact h.elim
  · unfold mm2Q at h ⊢
    split at h <;> first | exact Let_ex h | exact h.elim
  · exact h.elim
theorem txtQ_ex {src dst : TypeId} {es : List AV} {K : AV → Prop} (h : txtQ P src dst es K) : ∃ v, K v ∧ txtQ P src dst es fun u => u = v := by
  unfold txtQ at h ⊢
  obtain ⟨h1, h2, h⟩ := h
  split at h
  · rename_i e; (try simp only [e]); obtain ⟨v, q1, q2⟩ := Let_ex h; exact ⟨v, q1, h1, h2, q2⟩
  · exact h.elim
theorem convQ_ex {H : Nat → Option OB} {src dst : TypeId} {x : AV} {K : AV → Prop} (h : convQ P H src dst x K) : ∃ v, K v ∧ convQ P H src dst x fun u => u = v := by
  unfold convQ at h ⊢
  split at h
  · split at h
    · rename_i e1 e2; (try simp only [e1, e2]); exact Let_ex h
    · exact h.elim
  · exact txtQ_ex h
  · split at h
    · rename_i e; (try simp only [e]); exact txtQ_ex h
    · exact h.elim
  · exact txtQ_ex h
  · exact h.elim
theorem opQ0_ex {st : St} {op : Op} {K : AV → Prop} (h : opQ0 P st op K) : ∃ v, K v ∧ opQ0 P st op fun u => u = v := by
  unfold opQ0 at h ⊢
  split at h
  case h_1 => exact ⟨_, h, rfl⟩
  case h_2 => exact ⟨_, h, rfl⟩
  case h_3 => split at h <;> first | exact ⟨_, h, rfl⟩ | exact h.elim
  case h_4 => exact loadQ_ex h
  case h_5 => split at h <;> first | exact ⟨_, h, rfl⟩ | exact h.elim
  case h_6 => exact binQ_ex h
  case h_7 =>
    unfold unQ at h ⊢
    split at h <;> first | exact Let_ex h | exact ⟨_, h, rfl⟩ | exact h.elim
  case h_8 => exact convQ_ex h
  case h_9 =>
    obtain ⟨h0, h⟩ := h
    unfold mkFnQ at h ⊢
    split at h
    · rename_i e; (try simp only [e]); exact ⟨_, h, h0, rfl⟩
    · rename_i e; (try simp only [e]); exact ⟨_, h.2, h0, h.1, rfl⟩
  case h_10 => exact sliceQ_ex h
  case h_11 => split at h <;> first | exact ⟨_, h, rfl⟩ | exact h.elim
  case h_12 => split at h <;> first | exact partQ_ex h | exact h.elim
  case h_13 => exact idxQ_ex h
  case h_14 =>
    split at h
    · obtain ⟨h1, h2, b, hb, hK⟩ := h; obtain ⟨v, q1, q2⟩ := Let_ex hK; exact ⟨v, q1, h1, h2, b, hb, q2⟩
    · obtain ⟨len, sz, gz, h1, h2, h3, hK⟩ := h; obtain ⟨v, q1, q2⟩ := partQ_ex hK; exact ⟨v, q1, len, sz, gz, h1, h2, h3, q2⟩
    · exact h.elim
  case h_15 =>
    split at h
    · obtain ⟨v, hv, hK⟩ := h; exact ⟨v, hK, v, hv, rfl⟩
    · exact h.elim
  case h_16 => exact biQ_ex h
  case h_17 => exact h.elim
theorem opQ_ex {st : St} {op : Op} {K : AV → Prop} (h : opQ P st op K) : ∃ v, K v ∧ opQ P st op fun u => u = v := by
  unfold opQ at h ⊢
  split at h
  · split at h
    · unfold callQ at h ⊢
      split at h
      · split at h
        · rename_i e1 e2; obtain ⟨r, h1, h2, hK⟩ := h; (try simp only [e1, e2]); exact ⟨r, hK, r, h1, h2, rfl⟩
        · exact h.elim
      · exact h.elim
    · exact biQ_ex h
  · exact opQ0_ex h
/-! ### A statement that leaves its order open -/
def afterOf (o : Oper) : List Nat := o.after.toList.filterMap fun e => if Region.binds .any e = true then some e.on else none
theorem mem_afterOf {o : Oper} {i : Nat} : i ∈ afterOf o ↔ ∃ e ∈ o.after, Region.binds .any e = true ∧ e.on = i := by
  unfold afterOf
  rw [List.mem_filterMap]
  constructor
  · rintro ⟨e, he, h⟩
    split at h
    · rename_i hb; cases h; exact ⟨e, by simpa using he, hb, rfl⟩
    · cases h
  · rintro ⟨e, he, hb, rfl⟩
    exact ⟨e, by simpa using he, by rw [if_pos hb]⟩
def reach (l : List Oper) : Nat → Nat → Nat → Bool
  | 0, _, _ => false
  | f + 1, j, i => match l[j]? with
    | some o => (afterOf o).contains i || (afterOf o).any fun e => reach l f e i
    | none => false
def conflB (ops : Array Oper) (x y : Oper) : Bool :=
  (match x.dst with
   | some d => (y.looksAt ops).contains d || y.dst == some d
   | none => false) ||
  (match y.dst with
   | some d => (x.looksAt ops).contains d
   | none => false)
def drawOk (l : List Oper) (m : Nat) : Bool :=
  decide (m ≤ l.length) && (List.range l.length).all fun j => match l[j]? with
    | some oj => (afterOf oj).all (fun e => decide (e < j)) && ((List.range j).all fun i => match l[i]? with
        | some oi => !(conflB l.toArray oi oj) || reach l l.length j i
        | none => true) && (decide (j < m) || (List.range j).all fun i => reach l l.length j i)
    | none => true
structure DrawOk (l : List Oper) (m : Nat) : Prop where
  le : m ≤ l.length
  before : ∀ (j : Nat) oj, l[j]? = some oj → ∀ e ∈ afterOf oj, e < j
  confl : ∀ (i j : Nat) oi oj, l[i]? = some oi → l[j]? = some oj → i < j → conflB l.toArray oi oj = true → reach l l.length j i = true
  tail : ∀ (i j : Nat) oj, l[j]? = some oj → m ≤ j → i < j → reach l l.length j i = true
theorem drawOk_spec {l : List Oper} {m : Nat} (h : drawOk l m = true) : DrawOk l m := by
  simp only [drawOk, Bool.and_eq_true, decide_eq_true_eq, List.all_eq_true, List.mem_range] at h
  obtain ⟨h0, h⟩ := h
  have key : ∀ (j : Nat) oj, l[j]? = some oj → _ := fun j oj hj => by
    have := h j (List.getElem?_eq_some_iff.1 hj).1
    rw [hj] at this
    simp only [Bool.and_eq_true, List.all_eq_true, decide_eq_true_eq, List.mem_range, Bool.or_eq_true] at this
    exact this
  refine ⟨h0, fun j oj hj e he => (key j oj hj).1.1 e he, fun i j oi oj hi hj hij hc => ?_, fun i j oj hj hm hij => ?_⟩
  · have := (key j oj hj).1.2 i hij
    rw [hi] at this
    simpa [hc] using this
  · rcases (key j oj hj).2 with h1 | h1
    · omega
    · exact h1 i hij
def Closed (l : List Oper) (S : Nat → Bool) : Prop := ∀ (j : Nat) oj, l[j]? = some oj → S j = true → ∀ e ∈ afterOf oj, S e = true
theorem reach_closed {l : List Oper} {S : Nat → Bool} (hc : Closed l S) : ∀ (f j i : Nat), reach l f j i = true → (∀ oj, l[j]? = some oj → ∀ e ∈ afterOf oj, S e = true) → S i = true
  | 0, j, i, h, _ => by simp [reach] at h
  | f + 1, j, i, h, hj => by
    unfold reach at h
    split at h
    · rename_i o ho
      simp only [Bool.or_eq_true, List.any_eq_true, List.contains_iff_mem] at h
      rcases h with h | ⟨e, he, h⟩
      · exact hj o ho i h
      · exact reach_closed hc f e i h fun oe hoe => hc e oe hoe (hj o ho e he)
    · cases h
theorem QOps_run {Q : St → Prop} : ∀ (l : List Oper) (st : St), QOps P ops Q l st →
    ∃ ps : List (Oper × AV), ps.map (·.1) = l ∧ (∀ (i : Nat) o v, ps[i]? = some (o, v) → YA P ops o v (stS st ps fun k => decide (k < i))) ∧ Q (stS st ps fun _ => true)
  | [], st, h => ⟨[], rfl, fun i o v hi => by simp at hi, Stop.out h⟩
  | o :: l, st, h => by
    have hv : ∃ v, YA P ops o v st ∧ QOps P ops Q l (st.put o.dst v) := by
      rcases guardA_some (Stop.out h) with ⟨hw, hk⟩ | ⟨hw, hk⟩
      · obtain ⟨v, h1, h2⟩ := opQ_ex hk
        exact ⟨v, .inl ⟨hw, h2⟩, h1⟩
      · exact ⟨.tup [], .inr ⟨hw, rfl⟩, hk⟩
    obtain ⟨v, hy, hr⟩ := hv
    obtain ⟨ps, h1, h2, h3⟩ := QOps_run l _ hr
    refine ⟨(o, v) :: ps, by simp [h1], fun i o' v' hi => ?_, by simpa [stS] using h3⟩
    cases i with
    | zero =>
      simp at hi
      obtain ⟨rfl, rfl⟩ := hi
      have : stS st ((o, v) :: ps) (fun k => decide (k < 0)) = st := by
        have hnone : ∀ (r : List (Oper × AV)) (st : St), (stS st r fun _ => false) = st := by
          intro r
          induction r with
          | nil => intro st; rfl
          | cons p r ih => intro st; obtain ⟨p1, p2⟩ := p; simp only [stS]; exact ih st
        have hz : (fun k => decide (k < 0)) = fun _ : Nat => false := by funext k; simp
        rw [hz]; exact hnone _ st
      rw [this]; exact hy
    | succ i =>
      have := h2 i o' v' (by simpa using hi)
      simpa [stS, Nat.succ_lt_succ_iff] using this
theorem YA_congr {st st' : St} {o : Oper} {v : AV} (hH : st.H = st'.H) (he : ∀ t ∈ o.looksAt ops, st.env t = st'.env t) (h : YA P ops o v st) : YA P ops o v st' := by
  have hw : wantedA ops o st = wantedA ops o st' := by
    unfold wantedA
    split
    · rfl
    · rename_i j want hg
      have : yieldedA ops st j = yieldedA ops st' j := by
        unfold yieldedA
        split
        · rename_i d hd
          rw [he d (by simp [Oper.looksAt, hg, hd])]
        · rfl
      have this2 : skippedA ops st j = skippedA ops st' j := by
        unfold skippedA
        split
        · rename_i d hd
          rw [he d (by simp [Oper.looksAt, hg, hd])]
        · rfl
      rw [this, this2]
  have hx : ∀ x ∈ o.op.operands, st.ev x = st'.ev x := by
    intro x hx
    cases x with
    | tmp t => exact he t (by simp only [Oper.looksAt, List.mem_append, List.mem_filterMap]; exact .inl ⟨_, by simpa using hx, rfl⟩)
    | _ => rfl
  rcases h with ⟨h1, h2⟩ | ⟨h1, h2⟩
  · exact .inl ⟨by rw [← hw]; exact h1, by rw [← opQ_congr hH hx]; exact h2⟩
  · exact .inr ⟨by rw [← hw]; exact h1, h2⟩
theorem cnt_set (n : Nat) (S : Nat → Bool) (i : Nat) (hi : i < n) (hs : S i = false) :
    ((List.range n).countP fun k => !S k) = ((List.range n).countP fun k => !(if k = i then true else S k)) + 1 := by
  induction n with
  | zero => omega
  | succ n ih =>
    rw [List.range_succ, List.countP_append, List.countP_append]
    by_cases h : i = n
    · subst h
      have e : (List.range i).countP (fun k => !S k) = (List.range i).countP fun k => !(if k = i then true else S k) := by
        apply List.countP_congr
        intro k hk
        have : k ≠ i := by have := List.mem_range.1 hk; omega
        simp [this]
      rw [e]; simp [hs]
    · rw [ih (by omega)]
      have : n ≠ i := fun e => h e.symm
      simp [this]; omega
section draw
variable {l : List Oper} {m : Nat} {Q' : Exit → Act → World → Prop}
theorem getD_sz {listed : Array Bool} {n i : Nat} (hs : listed.size = n) (hi : i < n) (b c : Bool) : listed.getD i b = listed.getD i c := by
  simp [hs, hi]
theorem set_getD {listed : Array Bool} {n i k : Nat} (hs : listed.size = n) (hi : i < n) : (listed.setIfInBounds i true).getD k false = if k = i then true else listed.getD k false := by
  by_cases h : k = i
  · subst h; simp [hs, hi]
  · simp only [h, if_false, Array.getD_eq_getD_getElem?]
    rw [Array.getElem?_setIfInBounds_ne (Ne.symm h)]
theorem closed_set {listed : Array Bool} (hs : listed.size = l.length) (hc : Closed l fun k => listed.getD k false) {i : Nat} (hr : i ∈ Region.ready .any l.toArray listed) : Closed l fun k => (listed.setIfInBounds i true).getD k false := by
  obtain ⟨hun, o, ho, hall⟩ := mem_ready.1 hr
  have hi : i < l.length := by
    have := (Array.getElem?_eq_some_iff.1 ho).1; simpa using this
  intro j oj hj hS e he
  simp only [set_getD hs hi] at hS ⊢
  by_cases h : j = i
  · subst h
    have : oj = o := by simpa [hj] using ho
    subst this
    obtain ⟨e', he', hb, rfl⟩ := mem_afterOf.1 he
    have := hall e' he' hb
    simp [this]
  · simp only [h, if_false] at hS
    have := hc j oj hj hS e he
    simp only at this
    simp [this]
theorem tail_sound (hd : DrawOk l m) (hN : dstsOk C.N l = true) {Q : St → Prop} (hQ : ∀ st a w, Q st → Gam C st a w → Q' .normal a w) :
    ∀ (f k : Nat) (listed : Array Bool) (a : Act) (w : World) (st : St), f + k = l.length → m ≤ k → listed.size = l.length → (∀ i, i < l.length → listed.getD i false = decide (i < k)) → Closed l (fun j => listed.getD j false) →
      Gam C st a w → EVops P l.toArray Q (l.drop k) st → wpAny P .any l.toArray Q' f listed a w := by
  intro f
  induction f with
  | zero =>
    intro k listed a w st hk hm hs hL hc g h
    have hdrop : l.drop k = [] := List.drop_eq_nil_of_le (by omega)
    rw [hdrop] at h
    refine ⟨?_, hQ st a w (Stop.out h) g⟩
    apply List.eq_nil_iff_forall_not_mem.2
    intro i hi
    obtain ⟨hun, o, ho, -⟩ := mem_ready.1 hi
    have hil : i < l.length := by have := (Array.getElem?_eq_some_iff.1 ho).1; simpa using this
    rw [getD_sz hs hil true false, hL i hil] at hun
    simp at hun; omega
  | succ f ih =>
    intro k listed a w st hk hm hs hL hc g h
    have hkl : k < l.length := by omega
    obtain ⟨o, ho⟩ : ∃ o, l[k]? = some o := ⟨l[k], List.getElem?_eq_getElem hkl⟩
    have honly : ∀ i ∈ Region.ready .any l.toArray listed, i = k := by
      intro i hi
      obtain ⟨hun, oi, hoi, hall⟩ := mem_ready.1 hi
      have hil : i < l.length := by have := (Array.getElem?_eq_some_iff.1 hoi).1; simpa using this
      rw [getD_sz hs hil true false, hL i hil] at hun
      simp at hun
      by_cases e : i = k
      · exact e
      · have hoi' : l[i]? = some oi := by simpa using hoi
        have hr := hd.tail k i oi hoi' (by omega) (by omega)
        have := reach_closed hc _ _ _ hr fun oj hoj e he => by
          rw [hoi'] at hoj; cases hoj
          obtain ⟨e', he', hb, rfl⟩ := mem_afterOf.1 he
          exact hall e' he' hb
        rw [hL k hkl] at this
        simp at this
    have hready : k ∈ Region.ready .any l.toArray listed := by
      refine mem_ready.2 ⟨by rw [getD_sz hs hkl true false, hL k hkl]; simp, o, by simpa using ho, fun e he hb => ?_⟩
      have hlt := hd.before k o ho e.on (mem_afterOf.2 ⟨e, he, hb, rfl⟩)
      rw [hL e.on (by omega)]; simpa using hlt
    refine ⟨fun h0 => (by rw [h0] at hready; cases hready), fun i hi => ?_⟩
    have := honly i hi
    subst this
    have hdrop : l.drop i = o :: l.drop (i + 1) := by
      obtain ⟨hl', he⟩ := List.getElem?_eq_some_iff.1 ho
      rw [← he]; exact List.drop_eq_getElem_cons hl'
    rw [hdrop] at h
    have hN1 := dstsOk_mem hN (List.mem_of_getElem? ho)
    have hL' : ∀ j, j < l.length → (listed.setIfInBounds i true).getD j false = decide (j < i + 1) := by
      intro j hj
      rw [set_getD hs hkl, hL j hj]
      by_cases e : j = i
      · subst e; simp
      · simp only [e, if_false]; congr 1; simp; omega
    have next : ∀ st' a' w', EVops P l.toArray Q (l.drop (i + 1)) st' → Gam C st' a' w' → wpAny P .any l.toArray Q' f (listed.setIfInBounds i true) a' w' := fun st' a' w' h' g' =>
      ih (i + 1) _ a' w' st' (by omega) (by omega) (by simpa using hs) hL' (closed_set hs hc hi) g' h'
    unfold wpOp
    have ho' : l.toArray[i]? = some o := by simpa using ho
    simp only [ho']
    rcases guardA_some (Stop.out h) with ⟨hw, hk'⟩ | ⟨hw, hk'⟩
    · rw [g.wanted hw]
      simp only [if_true]
      obtain ⟨φ, g⟩ := g
      rcases hk' with hk' | hk'
      · exact .inl (opK_step g hN1 hk' next)
      · exact .inl (hk' _ _ _ _ g hN1 _ _ next)
    · rw [g.wanted hw]
      simp only [Bool.false_eq_true, if_false]
      exact next _ _ _ hk' (g.put_junk o.dst hN1)
theorem head_sound (hd : DrawOk l m) (hN : dstsOk C.N l = true) {Q : St → Prop} (hQ : ∀ st a w, Q st → Gam C st a w → Q' .normal a w) {st0 : St} {ps : List (Oper × AV)} (hps : ps.map (·.1) = l.take m)
    (hY : ∀ (i : Nat) o v, ps[i]? = some (o, v) → YA P l.toArray o v (stS st0 ps fun k => decide (k < i))) (hlast : EVops P l.toArray Q (l.drop m) (stS st0 ps fun _ => true)) :
    ∀ (f : Nat) (listed : Array Bool) (a : Act) (w : World), ((List.range l.length).countP fun k => !(listed.getD k false)) = f → listed.size = l.length → (∀ i, m ≤ i → listed.getD i false = false) →
      Closed l (fun j => listed.getD j false) → Gam C (stS st0 ps fun j => listed.getD j false) a w → wpAny P .any l.toArray Q' f listed a w := by
  have hpl : ps.length = m := by have := congrArg List.length hps; simp at this; have := hd.le; omega
  have hpi : ∀ (i : Nat), i < m → ∃ o v, ps[i]? = some (o, v) ∧ l[i]? = some o := by
    intro i hi
    have h1 : ps[i]? = some ps[i] := List.getElem?_eq_getElem (by omega)
    refine ⟨ps[i].1, ps[i].2, h1, ?_⟩
    have h2 : (ps.map (·.1))[i]? = some ps[i].1 := by rw [List.getElem?_map, h1]; rfl
    rw [hps, List.getElem?_take, if_pos hi] at h2
    exact h2
  have hip : ∀ (j : Nat) o v, ps[j]? = some (o, v) → l[j]? = some o ∧ j < m := by
    intro j o v hj
    have hjm : j < m := by rw [← hpl]; exact (List.getElem?_eq_some_iff.1 hj).1
    have h2 : (ps.map (·.1))[j]? = some o := by rw [List.getElem?_map, hj]; rfl
    rw [hps, List.getElem?_take, if_pos hjm] at h2
    exact ⟨h2, hjm⟩
  intro f
  induction f with
  | zero =>
    intro listed a w hcnt hs hT hc g
    have hall : ∀ i, i < l.length → listed.getD i false = true := by
      intro i hi
      have := List.countP_eq_zero.1 hcnt i (List.mem_range.2 hi)
      simpa using this
    have hml : m = l.length := by
      rcases Nat.lt_or_ge m l.length with h | h
      · have := hall m h; rw [hT m (Nat.le_refl _)] at this; cases this
      · have := hd.le; omega
    have hst : (stS st0 ps fun j => listed.getD j false) = stS st0 ps fun _ => true := by
      have hE : (stS st0 ps fun j => listed.getD j false).env = (stS st0 ps fun _ => true).env := by
        funext t
        exact stS_congr ps st0 st0 _ _ t rfl fun i o v hi _ => hall i (by rw [← hml]; exact (hip i o v hi).2)
      have hH : (stS st0 ps fun j => listed.getD j false).H = (stS st0 ps fun _ => true).H := by rw [stS_H, stS_H]
      cases hA : (stS st0 ps fun j => listed.getD j false) with
      | mk e1 h1 => cases hB : (stS st0 ps fun _ => true) with
        | mk e2 h2 => rw [hA, hB] at hE hH; simp only at hE hH; subst hE hH; rfl
    rw [hst] at g
    exact tail_sound hd hN hQ 0 m listed a w _ (by omega) (Nat.le_refl _) hs (fun i hi => by rw [hall i hi]; simp; omega) hc g hlast
  | succ f ih =>
    intro listed a w hcnt hs hT hc g
    by_cases hfull : ∀ i, i < m → listed.getD i false = true
    · have hst : (stS st0 ps fun j => listed.getD j false) = stS st0 ps fun _ => true := by
        have hE : (stS st0 ps fun j => listed.getD j false).env = (stS st0 ps fun _ => true).env := by
          funext t
          exact stS_congr ps st0 st0 _ _ t rfl fun i o v hi _ => hfull i (hip i o v hi).2
        have hH : (stS st0 ps fun j => listed.getD j false).H = (stS st0 ps fun _ => true).H := by rw [stS_H, stS_H]
        cases hA : (stS st0 ps fun j => listed.getD j false) with
        | mk e1 h1 => cases hB : (stS st0 ps fun _ => true) with
          | mk e2 h2 => rw [hA, hB] at hE hH; simp only at hE hH; subst hE hH; rfl
      rw [hst] at g
      have hL : ∀ i, i < l.length → listed.getD i false = decide (i < m) := by
        intro i hi
        by_cases h : i < m
        · rw [hfull i h]; simp [h]
        · rw [hT i (by omega)]; simp [h]
      have hcnt2 : f + 1 + m = l.length := by
        have h1 : ((List.range l.length).countP fun k => !(listed.getD k false)) = (List.range l.length).countP fun k => !decide (k < m) := by
          apply List.countP_congr
          intro k hk
          rw [hL k (List.mem_range.1 hk)]
        rw [h1] at hcnt
        have h2 : ∀ n, m ≤ n → (List.range n).countP (fun k => !decide (k < m)) = n - m := by
          intro n
          induction n with
          | zero => intro _; simp
          | succ n ihn =>
            intro hmn
            rw [List.range_succ, List.countP_append]
            rcases Nat.lt_or_ge n m with h | h
            · have : m = n + 1 := by omega
              subst this
              have h0 : (List.range n).countP (fun k => !decide (k < n + 1)) = 0 := List.countP_eq_zero.2 fun k hk => by have := List.mem_range.1 hk; simp; omega
              rw [h0]; simp
            · rw [ihn h]
              have : ¬ n < m := by omega
              simp [this]; omega
        rw [h2 l.length hd.le] at hcnt
        have := hd.le; omega
      exact tail_sound hd hN hQ (f + 1) m listed a w _ hcnt2 (Nat.le_refl _) hs hL hc g hlast
    · have hhead : ∀ i ∈ Region.ready .any l.toArray listed, i < m := by
        intro i hi
        rcases Nat.lt_or_ge i m with h | h
        · exact h
        · exfalso
          obtain ⟨hun, oi, hoi, hall⟩ := mem_ready.1 hi
          have hoi' : l[i]? = some oi := by simpa using hoi
          refine hfull fun j hj => ?_
          exact reach_closed hc _ _ _ (hd.tail j i oi hoi' h (by omega)) fun oj hoj e he => by
            rw [hoi'] at hoj; cases hoj
            obtain ⟨e', he', hb, rfl⟩ := mem_afterOf.1 he
            exact hall e' he' hb
      have hex : Region.ready .any l.toArray listed ≠ [] := by
        intro h0
        have : ∃ i, i < m ∧ listed.getD i false = false := by
          apply Classical.byContradiction
          intro hno
          refine hfull fun i hi => ?_
          cases hb : listed.getD i false with
          | true => rfl
          | false => exact (hno ⟨i, hi, hb⟩).elim
        obtain ⟨i0, hi0, hu0⟩ := this
        have hmin : ∀ n i, i ≤ n → i < m → listed.getD i false = false → False := by
          intro n
          induction n with
          | zero =>
            intro i hin him hu
            have : i = 0 := by omega
            subst this
            obtain ⟨o, v, hp, hl⟩ := hpi 0 him
            have hmem : 0 ∈ Region.ready .any l.toArray listed := mem_ready.2 ⟨by rw [getD_sz hs (by have := hd.le; omega) true false]; exact hu, o, by simpa using hl, fun e he hb => by
              have := hd.before 0 o hl e.on (mem_afterOf.2 ⟨e, he, hb, rfl⟩); omega⟩
            rw [h0] at hmem; cases hmem
          | succ n ihn =>
            intro i hin him hu
            obtain ⟨o, v, hp, hl⟩ := hpi i him
            have hmem : i ∈ Region.ready .any l.toArray listed := mem_ready.2 ⟨by rw [getD_sz hs (by have := hd.le; omega) true false]; exact hu, o, by simpa using hl, fun e he hb => by
              have hlt := hd.before i o hl e.on (mem_afterOf.2 ⟨e, he, hb, rfl⟩)
              cases hb' : listed.getD e.on false with
              | true => rfl
              | false => exact (ihn e.on (by omega) (by omega) hb').elim⟩
            rw [h0] at hmem; cases hmem
        exact hmin i0 i0 (Nat.le_refl _) hi0 hu0
      refine ⟨fun h0 => absurd h0 hex, fun i hi => ?_⟩
      have him := hhead i hi
      obtain ⟨o, v, hp, hlo⟩ := hpi i him
      obtain ⟨hun, o', ho', hall⟩ := mem_ready.1 hi
      have : o' = o := by simpa [hlo] using ho'.symm
      subst this
      have hil : i < l.length := by have := hd.le; omega
      have hsi : listed.getD i false = false := by rw [← getD_sz hs hil true false]; exact hun
      have hdeps : ∀ oj, l[i]? = some oj → ∀ e ∈ afterOf oj, listed.getD e false = true := by
        intro oj hoj e he
        rw [hlo] at hoj; cases hoj
        obtain ⟨e', he', hb, rfl⟩ := mem_afterOf.1 he
        exact hall e' he' hb
      -- which of the others stand before it
      have hbefore : ∀ (j : Nat) oj, l[j]? = some oj → j < i → conflB l.toArray oj o' = true → listed.getD j false = true := fun j oj hj hji hcf =>
        reach_closed hc _ _ _ (hd.confl j i oj o' hj hlo hji hcf) hdeps
      have hafter : ∀ (j : Nat) oj, l[j]? = some oj → i < j → conflB l.toArray o' oj = true → listed.getD j false = false := fun j oj hj hij hcf => by
        cases hb : listed.getD j false with
        | false => rfl
        | true =>
          have := reach_closed hc _ _ _ (hd.confl i j o' oj hlo hj hij hcf) fun oj' hoj' e he => hc j oj' hoj' hb e he
          rw [hsi] at this; cases this
      have hlook : ∀ t ∈ o'.looksAt l.toArray, (stS st0 ps fun k => decide (k < i)).env t = (stS st0 ps fun j => listed.getD j false).env t := by
        intro t ht
        refine stS_congr ps st0 st0 _ _ t rfl fun j oj vj hj hdj => ?_
        obtain ⟨hlj, -⟩ := hip j oj vj hj
        rcases Nat.lt_trichotomy j i with h | h | h
        · have := hbefore j oj hlj h (by simp [conflB, hdj, ht])
          simp only [this, h, decide_true]
        · subst h; simp only [hsi]; simp
        · have := hafter j oj hlj h (by simp [conflB, hdj, ht])
          simp only [this]; simp; omega
      have hy := YA_congr (by rw [stS_H, stS_H]) hlook (hY i o' v hp)
      have hadd : stS st0 ps (fun k => (listed.setIfInBounds i true).getD k false) = (stS st0 ps fun j => listed.getD j false).put o'.dst v := by
        have e : (fun k => (listed.setIfInBounds i true).getD k false) = fun k => if k = i then true else listed.getD k false := by funext k; exact set_getD hs hil
        rw [e]
        refine stS_add hp hsi fun j oj vj t hij hj hd1 hd2 => ?_
        obtain ⟨hlj, -⟩ := hip j oj vj hj
        exact hafter j oj hlj hij (by simp [conflB, hd1, hd2])
      have hN1 := dstsOk_mem hN (List.mem_of_getElem? hlo)
      have next : ∀ a' w', Gam C ((stS st0 ps fun j => listed.getD j false).put o'.dst v) a' w' → wpAny P .any l.toArray Q' f (listed.setIfInBounds i true) a' w' := fun a' w' g' => by
        refine ih _ a' w' ?_ (by simpa using hs) (fun j hj => by rw [set_getD hs hil, if_neg (by omega)]; exact hT j hj) (closed_set hs hc hi) (by rw [hadd]; exact g')
        have e : (fun k => !(listed.setIfInBounds i true).getD k false) = fun k => !(if k = i then true else listed.getD k false) := by funext k; rw [set_getD hs hil]
        have := cnt_set l.length (fun k => listed.getD k false) i hil hsi
        rw [e]; omega
      unfold wpOp
      simp only [ho']
      rcases hy with ⟨hw, hq⟩ | ⟨hw, rfl⟩
      · rw [g.wanted hw]
        simp only [if_true]
        obtain ⟨φ, g⟩ := g
        refine .inl (opQ_wp g hq fun u x w' hu hb hr => ?_)
        subst hu
        exact next _ _ ⟨φ, (g.quiet hb).put hr o'.dst hN1⟩
      · rw [g.wanted hw]
        simp only [Bool.false_eq_true, if_false]
        exact next _ _ (g.put_junk o'.dst hN1)
end draw
end
end Go.Proofs.Ytdnndlalflahhaa.Ev
