/- A range over a function: its body walked in a round; the objects that a round writes stay where they lie. -/
import Derived.Test.YtdnndlalflahhaaEvO
import Derived.OwnWalkIn
import Derived.RangeFuncNested
import Derived.RangeFuncLeaves
import Derived.WalkKit
import Derived.TacticsInMore
import Derived.LoopNIn
import Derived.LoopIn
set_option linter.unusedVariables false
set_option linter.unusedSimpArgs false
namespace Go.Proofs.Ytdnndlalflahhaa.Ev
open Go Go.RowKit
section
variable {P : Program} {C : Ctx P} {a : Act} {w : World} {ops : Array Oper}
def noDefB (o : Oper) : Bool := match o.op with
  | .defer _ => false
  | _ => true
theorem noDefB_ne {o : Oper} (h : noDefB o = true) : ∀ c, o.op ≠ .defer c := by
  intro c hc
  unfold noDefB at h
  rw [hc] at h
  cases h
theorem wp_inRound {o : Oper} (hnd : noDefB o = true) {n l : Nat} {next : Act → World → Prop} {Q : Exit → Act → World → Prop} (h : o.wp P a w next Q) : o.wpIn (Fence.wide.inRound l) n P a w next Q := by
  refine ⟨fun _ _ => trivial, ?_⟩
  unfold Oper.wp at h
  rw [Fence.inRound_round, Oper.semAt_eq _ _ _ (noDefB_ne hnd)]
  generalize (execOp a.eval o).run P w = r at h ⊢
  have hd : (Fence.wide.inRound l).depth.isSome = true → 1 ≤ n := fun h => by simp [Fence.wide] at h
  cases r with
  | ok x w' =>
    cases x with
    | value v => exact h
    | skip => exact h
    | defer d => exact h
    | enter f args => exact ⟨hd, CallsIn.inRound l (callsIn_wide.2 h)⟩
    | row row args => exact ⟨hd, fun c cs _ => let ⟨v, w', r, s⟩ := h c cs; ⟨v, w', r, stepsIn_wide.2 s⟩⟩
    | _ => exact h.elim
  | halt x w' =>
    cases x with
    | panic v => exact h
    | _ => exact h.elim
theorem wpOps_inRound {Q : Exit → Act → World → Prop} {r n : Nat} (hD : ∀ (i : Nat) (o : Oper), ops[i]? = some o → noDefB o = true) (hL : ¬ LetsOut Q) :
    ∀ (l : List Nat) (a : Act) (w : World), wpOps P ops Q l a w → wpOpsIn (Fence.wide.inRound r) n P ops Q l a w
  | [], a, w, h => h
  | i :: rest, a, w, h => by
    unfold wpOps at h
    unfold wpOpsIn
    cases ho : ops[i]? with
    | none =>
      simp only [ho] at h ⊢
      exact wpOps_inRound hD hL rest a w h
    | some o =>
      simp only [ho] at h ⊢
      split
      · rename_i hw
        rw [if_pos hw] at h
        rcases h with h | ⟨-, h⟩
        · exact Oper.wpIn_mono (fun a w => wpOps_inRound hD hL rest a w) (wp_inRound (hD i o ho) h)
        · exact absurd h hL
      · rename_i hw
        rw [if_neg hw] at h
        exact ⟨fun _ _ => trivial, wpOps_inRound hD hL rest _ _ h⟩
theorem all_noDef {l : List Oper} (h : l.all noDefB = true) : ∀ (i : Nat) (o : Oper), l.toArray[i]? = some o → noDefB o = true := fun i o ho =>
  List.all_eq_true.1 h o (List.mem_of_getElem? (by simpa using ho))
theorem regionR_any {id r n : Nat} {Q : Exit → Act → World → Prop} {l : List Oper} (hD : l.all noDefB = true) (hL : ¬ LetsOut Q) (hm : P.follows .mixedOrders = true)
    (h : wpAny P .any l.toArray Q l.toArray.size (Array.replicate l.toArray.size false) a { w with drawn := w.drawn + 1 }) : (Code.region id l.toArray true).wpIn (Fence.wide.inRound r) n P Q a w :=
  wpIn_region_draw fun t => by
    simp only [Region.schedule, hm, Bool.true_or, if_true]
    exact wpOps_inRound (all_noDef hD) hL _ _ _ (wpAny_sound _ t _ a _ h)
def GoodR (P : Program) (N : Nat) (c : Code) (Q : Exit → St → Prop) (st : St) : Prop :=
  ∀ (l n : Nat) (C : Ctx P), C.N = N → ∀ a w, Gam C st a w → c.wpIn (Fence.wide.inRound l) n P (fun e a' w' => ∃ st', e ≠ .outgrown ∧ Q e st' ∧ Gam C st' a' w') a w
theorem notOut {C : Ctx P} {Q : Exit → St → Prop} : ¬ LetsOut (fun e a' w' => ∃ st', e ≠ .outgrown ∧ Q e st' ∧ Gam C st' a' w') := fun ⟨_, _, _, h, _⟩ => h rfl
variable {N : Nat} {Q : Exit → St → Prop} {st st' : St}
theorem goodR_weak {c : Code} (h : Sub N st st') (k : GoodR P N c Q st') : GoodR P N c Q st := fun l n C hC a w g => k l n C hC a w (h C hC a w g)
theorem goodR_skip (h : Q .normal st) : GoodR P N .skip Q st := fun _ _ _ _ _ _ g => wpIn_skip ⟨st, (fun e => by cases e), h, g⟩
theorem goodR_seq {x y : Code} (h : ∀ K : St → Prop, (∀ s, GoodR P N y Q s → K s) → GoodR P N x (thenQ K Q) st) : GoodR P N (.seq x y) Q st := fun l n C hC a w g => by
  refine wpIn_seq (wpIn_mono (h (GoodR P N y Q) (fun _ h => h) l n C hC a w g) ?_)
  intro e a' w' ⟨s, h0, h1, h2⟩
  cases e with
  | normal => exact h1 l n C hC a' w' h2
  | _ => exact ⟨s, h0, h1, h2⟩
theorem goodR_cond {c : Operand} {x y : Code} {b : Bool} (hc : st.ev c = .s (.bool b)) (ht : b = true → GoodR P N x Q st) (hf : b = false → GoodR P N y Q st) : GoodR P N (.cond c x y) Q st := fun l n C hC a w g => by
  have hv : a.eval c = .bool b := by
    obtain ⟨φ, g⟩ := g
    have := g.ev c
    rw [hc] at this
    exact inv_s this
  cases b with
  | true => exact wpIn_cond_true hv (ht rfl l n C hC a w g)
  | false => exact wpIn_cond_false hv (hf rfl l n C hC a w g)
theorem goodR_block {id : Nat} {c : Code} (h : GoodR P N c (blockQ id Q) st) : GoodR P N (.block id c) Q st := fun l n C hC a w g => by
  refine wpIn_block (wpIn_mono (h l n C hC a w g) ?_)
  intro e a' w' ⟨s, h0, h1, h2⟩
  cases e with
  | exit id' =>
    simp only [blockQ] at h1
    simp only [Exit.inBlock]
    split at h1
    · rename_i e; rw [if_pos e]; exact ⟨s, (fun e => by cases e), h1, h2⟩
    · rename_i e; rw [if_neg e]; exact ⟨s, h0, h1, h2⟩
  | _ => exact ⟨s, h0, h1, h2⟩
theorem goodR_any {id : Nat} {l : List Oper} (n : Nat) {listed : Array Bool} (hD : l.all noDefB = true) (hn : l.length = n) (hl : Array.replicate n false = listed) (hm : P.follows .mixedOrders = true) (hN : dstsOk N l = true)
    (h : AnyT P l (Q .normal) n listed st) : GoodR P N (.region id l.toArray true) Q st := fun r m C hC a w g => by
  subst hC hn hl
  have hg : Gam C st a { w with drawn := w.drawn + 1 } := by
    obtain ⟨φ, g⟩ := g
    exact ⟨φ, g.quiet ⟨rfl, rfl, rfl, Nat.le_refl _, fun _ _ => rfl⟩⟩
  have := AnyT_sound (Q' := fun e a' w' => ∃ st', e ≠ .outgrown ∧ Q e st' ∧ Gam C st' a' w') hN (fun s a w h g => ⟨s, (fun e => by cases e), h, g⟩) l.length _ st a _ h hg
  exact regionR_any hD notOut hm (by simpa using this)
theorem goodR_orders {id : Nat} {l : List Oper} (n : Nat) {listed : Array Bool} (hD : l.all noDefB = true) (hn : l.length = n) (hl : Array.replicate n false = listed) (hm : P.follows .mixedOrders = true) (hN : dstsOk N l = true)
    (h : AnyS P l (Q .normal) n listed st) : GoodR P N (.region id l.toArray true) Q st := fun r m C hC a w g => by
  subst hC hn hl
  have hg : Gam C st a { w with drawn := w.drawn + 1 } := by
    obtain ⟨φ, g⟩ := g
    exact ⟨φ, g.quiet ⟨rfl, rfl, rfl, Nat.le_refl _, fun _ _ => rfl⟩⟩
  have := AnyS_sound (Q' := fun e a' w' => ∃ st', e ≠ .outgrown ∧ Q e st' ∧ Gam C st' a' w') hN (fun s a w h g => ⟨s, (fun e => by cases e), h, g⟩) l.length _ st a _ h hg
  exact regionR_any hD notOut hm (by simpa using this)
theorem goodR_draw {id : Nat} {l : List Oper} (m : Nat) (hD : l.all noDefB = true) (hm : P.follows .mixedOrders = true) (hd : drawOk l m = true) (hN : dstsOk N l = true)
    (h : QOps P l.toArray (EVops P l.toArray (Q .normal) (l.drop m)) (l.take m) st) : GoodR P N (.region id l.toArray true) Q st := fun r n C hC a w g => by
  subst hC
  obtain ⟨ps, h1, h2, h3⟩ := QOps_run _ _ h
  have hg : Gam C (stS st ps fun j => (Array.replicate l.toArray.size false).getD j false) a { w with drawn := w.drawn + 1 } := by
    have hnone : ∀ (r : List (Oper × AV)) (st : St), (stS st r fun _ => false) = st := by
      intro r
      induction r with
      | nil => intro st; rfl
      | cons p r ih => intro st; obtain ⟨p1, p2⟩ := p; simp only [stS]; exact ih st
    have e : (fun j => (Array.replicate l.toArray.size false).getD j false) = fun _ : Nat => false := by
      funext j
      simp only [Array.getD_eq_getD_getElem?, Array.getElem?_replicate]
      split <;> rfl
    rw [e, hnone]
    obtain ⟨φ, g⟩ := g
    exact ⟨φ, g.quiet ⟨rfl, rfl, rfl, Nat.le_refl _, fun _ _ => rfl⟩⟩
  refine regionR_any hD notOut hm (head_sound (drawOk_spec hd) hN (Q' := fun e a' w' => ∃ st', e ≠ .outgrown ∧ Q e st' ∧ Gam C st' a' w') (fun s a w h g => ⟨s, (fun e => by cases e), h, g⟩) h1 h2 h3 _ _ _ _ ?_ (by simp) (fun i _ => ?_) ?_ hg)
  · have : ∀ n, (List.range n).countP (fun k => !(Array.replicate l.toArray.size false).getD k false) = n := by
      intro n
      have e : ∀ k, (Array.replicate l.toArray.size false).getD k false = false := by
        intro j
        simp only [Array.getD_eq_getD_getElem?, Array.getElem?_replicate]
        split <;> rfl
      rw [List.countP_eq_length.2 (fun k _ => by rw [e]; rfl)]
      simp
    rw [this]; simp
  · simp only [Array.getD_eq_getD_getElem?, Array.getElem?_replicate]
    split <;> rfl
  · intro j oj _ hS
    simp only [Array.getD_eq_getD_getElem?, Array.getElem?_replicate] at hS
    split at hS <;> cases hS
/-! ### Behind a range: the deferred calls are a mark -/
theorem wp_defers {o : Oper} {D : List Deferred} {next : Act → World → Prop} {Q : Exit → Act → World → Prop}
    (h : o.wp P a w (fun a' w' => a'.defers = [] ∧ next { a' with defers := D } w') (fun _ _ _ => False)) : o.wp P { a with defers := D } w next Q := by
  unfold Oper.wp at h ⊢
  have hev : ({ a with defers := D } : Act).eval = a.eval := by funext x; cases x <;> rfl
  rw [hev]
  have hput : ∀ v, ({ a with defers := D } : Act).put o.dst v = { a.put o.dst v with defers := D } := by
    intro v; unfold Act.put; cases o.dst <;> rfl
  generalize (execOp a.eval o).run P w = r at h
  cases r with
  | ok x w' =>
    cases x with
    | value v => simp only [Oper.upon] at h ⊢; rw [hput]; exact h.2
    | skip => simp only [Oper.upon] at h ⊢; rw [hput]; exact h.2
    | defer d =>
      have h1 := h.1
      cases hd : o.dst <;> simp [Act.put, hd] at h1
    | enter f args =>
      simp only [Oper.upon] at h ⊢
      refine h.mono fun e w'' he => ?_
      cases e with
      | returned v => simp only at he ⊢; rw [hput]; exact he.2
      | panicked ch => exact he.elim
      | outgrown => exact let ⟨a', w', h⟩ := he; h.elim
    | row row args =>
      simp only [Oper.upon] at h ⊢
      exact Rows.mono h fun v w'' he => by rw [hput]; exact he.2
    | _ => exact h.elim
  | halt x w' =>
    cases x with
    | panic v => exact h.elim
    | _ => exact h.elim
theorem EVopsD_sound {D : List Deferred} {Q : St → Prop} {Q' : Exit → Act → World → Prop} (hQ : ∀ st a w, Q st → Gam C st a w → Q' .normal { a with defers := D } w) :
    ∀ (l : List Oper) (st : St) (a : Act) (w : World), dstsOk C.N l = true → EVops P ops Q l st → Gam C st a w → wpList P ops Q' l { a with defers := D } w
  | [], st, a, w, _, h, g => hQ st a w (Stop.out h) g
  | o :: rest, st, a, w, hN, h, g => by
    have hN1 := dstsOk_mem hN (o := o) (by simp)
    have hN2 : dstsOk C.N rest = true := by simp only [dstsOk, List.all_cons, Bool.and_eq_true] at hN; exact hN.2
    rcases guardA_some (Stop.out h) with ⟨hw, hk⟩ | ⟨hw, hk⟩
    · have := g.wanted hw
      unfold wpList
      rw [show ({ a with defers := D } : Act).tmps = a.tmps from rfl, this]
      simp only [if_true]
      obtain ⟨φ, g⟩ := g
      rcases hk with hk | hk
      · refine .inl (wp_defers (opK_step g hN1 hk fun st' a' w' hK hG => ⟨?_, EVopsD_sound hQ rest st' a' w' hN2 hK hG⟩))
        obtain ⟨φ', g'⟩ := hG
        exact g'.defers
      · refine .inl (wp_defers (hk _ _ _ _ g hN1 _ _ fun st' a' w' hK hG => ⟨?_, EVopsD_sound hQ rest st' a' w' hN2 hK hG⟩))
        obtain ⟨φ', g'⟩ := hG
        exact g'.defers
    · have := g.wanted hw
      unfold wpList
      rw [show ({ a with defers := D } : Act).tmps = a.tmps from rfl, this]
      simp only [Bool.false_eq_true, if_false]
      have e : ({ a with defers := D } : Act).put o.dst undef = { a.put o.dst undef with defers := D } := by
        unfold Act.put; cases o.dst <;> rfl
      rw [e]
      exact EVopsD_sound hQ rest _ _ _ hN2 hk (g.put_junk o.dst hN1)
end
/-! ### Where something that holds no cells turns -/
section
variable {w w' : World} {ok ok' : Nat → Prop}
mutual
theorem Rep.cmono (hk : ∀ b, ok b → b < w.heap.size → ok' b) (hh : ∀ (b : Nat) (arr : Array Value) (ty : TypeId) (fr : Nat × Nat), ok b → w.heap[b]? = some (.cells arr ty fr) → w'.heap[b]? = w.heap[b]?) :
    ∀ {x : AV} {v : Value}, Rep w ok x v → Rep w' ok' x v
  | _, _, .s h => .s h
  | _, _, .nil => .nil
  | _, _, .agg h => .agg (Reps.cmono hk hh h)
  | _, _, .tup h => .tup (Reps.cmono hk hh h)
  | _, _, .lst0 => .lst0
  | _, _, .lst hsz hc hs hok hb hd h1 hr => .lst hsz hc hs (hk _ hok (lt_of_heap hb)) ((hh _ _ _ _ hok hb).trans hb) hd h1 (Reps.cmono hk hh hr)
  | _, _, .rp hs hok hb hd h1 hr => .rp hs (hk _ hok (lt_of_heap hb)) ((hh _ _ _ _ hok hb).trans hb) hd h1 (Reps.cmono hk hh hr)
  | _, _, .fn h => .fn (Reps.cmono hk hh h)
theorem Reps.cmono (hk : ∀ b, ok b → b < w.heap.size → ok' b) (hh : ∀ (b : Nat) (arr : Array Value) (ty : TypeId) (fr : Nat × Nat), ok b → w.heap[b]? = some (.cells arr ty fr) → w'.heap[b]? = w.heap[b]?) :
    ∀ {xs : List AV} {vs : List Value}, Reps w ok xs vs → Reps w' ok' xs vs
  | _, _, .nil => .nil
  | _, _, .cons h t => .cons (Rep.cmono hk hh h) (Reps.cmono hk hh t)
end
end
structure ShH (H H' : Nat → Option OB) : Prop where
  row : ∀ h ty sz es, H h = some (.row ty sz es) → ∃ es', H' h = some (.row ty sz es') ∧ es.length ≤ es'.length
  box : ∀ h ty cs, H h = some (.box ty cs) → ∃ cs', H' h = some (.box ty cs')
  nest : ∀ h ty tyI szI rows, H h = some (.nest ty tyI szI rows) → ∃ rows', H' h = some (.nest ty tyI szI rows') ∧ rows.length = rows'.length
theorem ShH.refl (H : Nat → Option OB) : ShH H H := ⟨fun _ _ _ es h => ⟨es, h, Nat.le_refl _⟩, fun _ _ cs h => ⟨cs, h⟩, fun _ _ _ _ rows h => ⟨rows, h, rfl⟩⟩
structure SameH (H H' : Nat → Option OB) : Prop extends ShH H H' where
  back : ∀ h, (H' h).isSome = true → (H h).isSome = true
  refs : ∀ h ob, H' h = some ob → ∀ k ∈ refsO ob, (H' k).isSome = true
section
variable {P : Program} {C : Ctx P} {a : Act} {W W' : World} {φ : Nat → Value} {env : Nat → AV} {H H' : Nat → Option OB}
theorem RepV.same {ok ok' : Nat → Prop} (hs : ShH H H') (hk : ∀ b, ok b → b < W.heap.size → ok' b) (hh : ∀ (b : Nat) (arr : Array Value) (ty : TypeId) (fr : Nat × Nat), ok b → W.heap[b]? = some (.cells arr ty fr) → W'.heap[b]? = W.heap[b]?) {v : AV} {x : Value}
    (h : RepV φ H W ok v x) : RepV φ H' W' ok' v x := by
  refine RepV.lift1 (p := fun _ => True) (fun _ _ _ _ => trivial) (fun _ _ _ _ => trivial) (fun v x hl _ hr => ?_) trivial h
  cases v with
  | agg => simp [leafV] at hl
  | tup => simp [leafV] at hl
  | ptr k o =>
    obtain ⟨ty, cs, gb, hk, r⟩ := hr
    obtain ⟨cs', hk'⟩ := hs.box k ty cs hk
    exact ⟨ty, cs', gb, hk', r⟩
  | eptr k i o =>
    obtain ⟨ty, sz, es, gb, m, c, hk, h2, r2, r3⟩ := hr
    obtain ⟨es', hk', hl⟩ := hs.row k ty sz es hk
    exact ⟨ty, sz, es', gb, m, c, hk', h2, by omega, r3⟩
  | own k n =>
    obtain ⟨ty, sz, es, A, m, c, hk, h2, r2, r3⟩ := hr
    obtain ⟨es', hk', hl⟩ := hs.row k ty sz es hk
    exact ⟨ty, sz, es', A, m, c, hk', h2, by omega, r3⟩
  | osl k i n =>
    obtain ⟨ty, sz, es, A, m, c, A', c', hk, h2, r2, r3⟩ := hr
    obtain ⟨es', hk', hl⟩ := hs.row k ty sz es hk
    exact ⟨ty, sz, es', A, m, c, A', c', hk', h2, by omega, r3⟩
  | nst k n =>
    obtain ⟨ty, tyI, szI, rows, fs, hk, r, r2, r3⟩ := hr
    obtain ⟨rows', hk', hl⟩ := hs.nest k ty tyI szI rows hk
    exact ⟨ty, tyI, szI, rows', fs, hk', r, r2, by omega⟩
  | nptr k i =>
    obtain ⟨ty, tyI, szI, rows, gb, m, c, fs, hk, r1, r2, r3⟩ := hr
    obtain ⟨rows', hk', hl⟩ := hs.nest k ty tyI szI rows hk
    exact ⟨ty, tyI, szI, rows', gb, m, c, fs, hk', r1, by omega, r3⟩
  | inr k i =>
    obtain ⟨ty, tyI, szI, rows, fo, fs, hk, r⟩ := hr
    obtain ⟨rows', hk', hl⟩ := hs.nest k ty tyI szI rows hk
    exact ⟨ty, tyI, szI, rows', fo, fs, hk', r⟩
  | clo f hs' =>
    obtain ⟨e, hall⟩ := hr
    refine ⟨e, fun k hk => ?_⟩
    obtain ⟨ty, cs, hk'⟩ := hall k hk
    obtain ⟨cs', hk2⟩ := hs.box k ty cs hk'
    exact ⟨ty, cs', hk2⟩
  | junk => trivial
  | _ => exact RepV.of (((RepV.ro rfl).1 hr).cmono hk hh)
theorem GamW.cells (g : GamW C { env := env, H := H } φ a W) {h b : Nat} (hs : (H h).isSome = true) (hb : Blk (φ h) b) : ∃ arr ty fr, W.heap[b]? = some (.cells arr ty fr) := by
  obtain ⟨ob, hob⟩ := Option.isSome_iff_exists.1 hs
  have ho := g.own h _ hob
  cases ob with
  | row ty sz es =>
    obtain ⟨xs, r1, -⟩ := ho
    rcases r1.cases with ⟨-, -, A, e⟩ | ⟨gb, cap, cur, e, -, hh, -⟩
    · rw [e] at hb; cases A <;> simp [Blk, blkOf] at hb
    · rw [e] at hb
      cases cap with
      | zero => simp [Blk, blkOf] at hb
      | succ cap => simp [Blk, blkOf] at hb; subst hb; exact ⟨_, _, _, hh⟩
  | box ty cs =>
    obtain ⟨gb, arr, e, r3, -⟩ := ho
    rw [e] at hb
    simp [Blk, blkOf] at hb; subst hb; exact ⟨_, _, _, r3⟩
  | nest ty tyI szI rows =>
    obtain ⟨fo, fs, e, r1, r2, -⟩ := ho
    rw [e] at hb
    obtain ⟨f, hf, hb⟩ := hb
    have one : ∀ {e sz n : Nat} {f : Value} {xs : List Value}, OwnsR W 0 e sz f n xs → blkOf f = some b → ∃ arr ty fr, W.heap[b]? = some (.cells arr ty fr) := by
      intro e sz n f xs hown hb
      rcases hown.cases with ⟨-, -, a', h⟩ | ⟨g1, cap, cur, h, hB, hg, -⟩
      · rw [h] at hb; cases a' <;> simp [blkOf] at hb
      · rw [h] at hb
        cases cap with
        | zero => simp [blkOf] at hb
        | succ cap => simp [blkOf] at hb; subst hb; exact ⟨_, _, _, hg⟩
    simp only [List.mem_cons] at hf
    rcases hf with rfl | hf
    · exact one r1 hb
    · have hl : fs.length = rows.length := by have := r1.length; omega
      obtain ⟨i, hi, rfl⟩ := List.mem_iff_getElem.1 hf
      obtain ⟨xs, h, -⟩ := r2 i rows[i] fs[i] (List.getElem?_eq_getElem (by omega)) (List.getElem?_eq_getElem hi)
      exact one h hb
theorem OwnsR.cellsKept {w w' : World} {B ty sz n : Nat} {fv : Value} {xs : List Value} (h : OwnsR w B ty sz fv n xs) (hc : ∀ (b : Nat) (arr : Array Value) (ty : TypeId) (fr : Nat × Nat), w.heap[b]? = some (.cells arr ty fr) → w'.heap[b]? = w.heap[b]?) : OwnsR w' B ty sz fv n xs := by
  rcases h.cases with h | ⟨g, cap, cur, rfl, hb, hh, h1, h2, h3, h4⟩
  · exact .inr h
  · exact .inl ⟨h.length, .inr ⟨g, cap, cur, rfl, hb, (hc _ _ _ _ hh).trans hh, h1, h2, h3, h4⟩⟩
theorem GamW.turned (g : GamW C { env := env, H := H } φ a W) {row : Option Nat} (hg : W.grownBy W' row)
    (hr : ∀ r, row = some r → C.w0.heap.size ≤ r ∧ ∃ o : Obj, W.heap[r]? = some o ∧ o.isCells = false) : GamW C { env := env, H := H } φ a W' := by
  have hc : ∀ (b : Nat) (arr : Array Value) (ty : TypeId) (fr : Nat × Nat), W.heap[b]? = some (.cells arr ty fr) → W'.heap[b]? = W.heap[b]? := fun b arr ty fr hb => by
    refine hg.block b (lt_of_heap hb) fun e => ?_
    obtain ⟨-, o, ho, hn⟩ := hr b e.symm
    rw [hb] at ho; cases ho; cases hn
  refine ⟨g.size, g.defers, g.below.grown hg (fun k e => .inr (hr k e).1), g.mine, g.keep, g.disj, fun h ob hob => ?_, fun t => RepV.same (ShH.refl H) (fun b hb _ => hb) (fun b arr ty fr _ hb => hc b arr ty fr hb) (g.rep t)⟩
  have ho := g.own h ob hob
  cases ob with
  | row ty sz es =>
    obtain ⟨xs, r1, r2, r3⟩ := ho
    exact ⟨xs, r1.cellsKept hc, r2.cmono (fun b hb _ => hb) (fun b arr ty fr _ hb => hc b arr ty fr hb), r3⟩
  | nest ty tyI szI rows =>
    refine nest_stay ho (fun b hb => ?_) (fun r _ xs h => h.cmono (fun b hb _ => hb) (fun b arr ty fr _ hb => hc b arr ty fr hb))
    obtain ⟨arr, ty, fr, hh⟩ := g.cells (h := h) (by rw [show H h = some _ from hob]; rfl) hb
    exact hc _ _ _ _ hh
  | box ty cs =>
    obtain ⟨gb, arr, r1, r3, r4, r5⟩ := ho
    exact ⟨gb, arr, r1, (hc _ _ _ _ r3).trans r3, r4, r5.mono fun _ _ h => RepV.same (ShH.refl H) (fun b hb _ => hb) (fun b arr ty fr _ hb => hc b arr ty fr hb) h⟩
def shiftH (H : Nat → Option OB) : Nat → Option OB := fun k => if 1000000 ≤ k then (H (k - 1000000)).map (renO fun j => j + 1000000) else none
def up (k : Nat) : Nat := k + 1000000
theorem shiftH_up (H : Nat → Option OB) (k : Nat) : shiftH H (up k) = (H k).map (renO up) := by
  unfold shiftH
  rw [if_pos (by unfold up; omega), show up k - 1000000 = k by unfold up; omega]; rfl
theorem shiftH_some {H : Nat → Option OB} {k : Nat} (h : (shiftH H k).isSome = true) : ∃ j, k = up j ∧ (H j).isSome = true := by
  unfold shiftH at h
  split at h
  · exact ⟨k - 1000000, by unfold up; omega, by simpa using h⟩
  · cases h
def blksOf (φ : Nat → Value) (H : Nat → Option OB) (b : Nat) : Prop := ∃ h, (H h).isSome = true ∧ Blk (φ h) b
theorem GamW.round (g : GamW C { env := env, H := H } φ a W) (a1 : Act) (env1 : Nat → AV) (hz : a1.tmps.size = C.N) (hd : a1.defers = [])
    (hr : ∀ t, (env1 t = ren up (env t) ∧ a1.tmps.getD t undef = a.tmps.getD t undef) ∨ env1 t = .junk ∨ Rep W (okG C φ H) (env1 t) (a1.tmps.getD t undef)) :
    ∃ C1 : Ctx P, C1.N = C.N ∧ C1.w0 = W ∧ C1.ok0 = okG C φ H ∧ C1.M = blksOf φ H ∧ (∀ k, C1.φ0 (up k) = φ k) ∧ Gam C1 { env := env1, H := shiftH H } a1 W := by
  let φ1 : Nat → Value := fun k => φ (k - 1000000)
  have hφ : ∀ k, φ1 (up k) = φ k := fun k => by
    have e : up k - 1000000 = k := by unfold up; omega
    show φ (up k - 1000000) = φ k
    rw [e]
  let C1 : Ctx P := { w0 := W, ok0 := okG C φ H, N := C.N, M := blksOf φ H, φ0 := φ1, small := C.small, glb := g.glb.mono (fun b hb _ => ⟨hb, fun ⟨h, h1, h2⟩ => hb.2 h h1 h2⟩) (fun _ _ _ => rfl) }
  have hok : ∀ b, okG C φ H b → okG C1 φ1 (shiftH H) b := fun b hb => ⟨.inl hb, fun h hs hb' => by
    obtain ⟨j, rfl, hj⟩ := shiftH_some hs
    rw [hφ] at hb'
    exact hb.2 j hj hb'⟩
  have hH : ∀ k ob, H k = some ob → shiftH H (up k) = some (renO up ob) := fun k ob e => by rw [shiftH_up, e]; rfl
  have hrep : ∀ v x, RepV φ H W (okG C φ H) v x → RepV φ1 (shiftH H) W (okG C1 φ1 (shiftH H)) (ren up v) x := fun v x h => ren_rep hH (fun k _ => hφ k) (.inl hok) h
  refine ⟨C1, rfl, rfl, rfl, rfl, hφ, φ1, hz, hd, BelowM.refl _ _, fun h b hs hb => ?_, fun _ _ _ => rfl, fun h k b hne h1 h2 hb => ?_, fun h ob hob => ?_, fun t => ?_⟩
  · obtain ⟨j, rfl, hj⟩ := shiftH_some hs
    rw [hφ] at hb
    exact .inl ⟨j, hj, hb⟩
  · obtain ⟨j, rfl, hj⟩ := shiftH_some h1
    obtain ⟨i, rfl, hi⟩ := shiftH_some h2
    rw [hφ] at hb ⊢
    exact g.disj j i b (fun e => hne (by rw [e])) hj hi hb
  · have hob' : shiftH H h = some ob := hob
    obtain ⟨j, rfl, hj⟩ := shiftH_some (by rw [hob']; rfl)
    obtain ⟨o1, ho1⟩ := Option.isSome_iff_exists.1 hj
    rw [hH j o1 ho1] at hob'
    cases hob'
    have ho := g.own j _ ho1
    show OwnOb φ1 (shiftH H) W (okG C1 φ1 (shiftH H)) (φ1 (up j)) (renO up o1)
    rw [hφ]
    cases o1 with
    | row ty sz es =>
      obtain ⟨xs, r1, r2, r3⟩ := ho
      exact ⟨xs, r1, r2.mono (fun b hb _ => hok b hb) (fun _ _ _ => rfl), r3⟩
    | nest ty tyI szI rows => exact nest_stay ho (fun _ _ => rfl) (fun r _ xs h => h.mono (fun b hb _ => hok b hb) (fun _ _ _ => rfl))
    | box ty cs =>
      obtain ⟨gb, arr, r1, r3, r4, r5⟩ := ho
      refine ⟨gb, arr, r1, r3, r4, ?_⟩
      rw [rens_map]
      refine ⟨by simpa using r5.1, fun i x v hxi hvi => ?_⟩
      rw [List.getElem?_map] at hxi
      cases hci : cs[i]? with
      | none => rw [hci] at hxi; cases hxi
      | some c => rw [hci] at hxi; cases hxi; exact hrep _ _ (r5.2 i c v hci hvi)
  · rcases hr t with ⟨e1, e2⟩ | h | h
    · show RepV φ1 (shiftH H) W (okG C1 φ1 (shiftH H)) (env1 t) _
      rw [e1, e2]
      exact hrep _ _ (g.rep t)
    · show RepV φ1 (shiftH H) W (okG C1 φ1 (shiftH H)) (env1 t) _
      rw [h]; trivial
    · exact RepV.of (h.mono (fun b hb _ => hok b hb) (fun _ _ _ => rfl))
theorem GamW.roundEnd (hs : SameH H H') (g : GamW C { env := env, H := H } φ a W) {C1 : Ctx P} (h0 : C1.w0 = W) (hok0 : C1.ok0 = okG C φ H) (hM : C1.M = blksOf φ H) (hφ : ∀ k, C1.φ0 (up k) = φ k) {st' : St} {a' : Act} (g' : Gam C1 st' a' W')
    (hH : ∀ k, (H k).isSome = true → st'.H (up k) = (H' k).map (renO up)) : BelowM (blksOf φ H) W W' ∧ GamW C { env := env, H := H' } φ a W' := by
  obtain ⟨φ2, g2⟩ := g'
  have hb : BelowM (blksOf φ H) W W' := by have := g2.below; rw [h0, hM] at this; exact this
  have hd : ∀ k, (H' k).isSome = true → (H k).isSome = true := hs.back
  have keep : ∀ b, okG C φ H b → b < W.heap.size → W'.heap[b]? = W.heap[b]? := fun b hk hlt => hb.block b hlt fun ⟨h, h1, h2⟩ => hk.2 h h1 h2
  have hin : ∀ k ob, H' k = some ob → st'.H (up k) = some (renO up ob) := fun k ob e => by rw [hH k (hd k (by rw [e]; rfl)), e]; rfl
  have hφ2 : ∀ k, (H' k).isSome = true → φ2 (up k) = φ k := fun k hk => by
    obtain ⟨ob, e⟩ := Option.isSome_iff_exists.1 hk
    exact (g2.keep (up k) (by unfold up; omega) (by rw [hin k ob e]; rfl)).trans (hφ k)
  have hok : ∀ b, okG C1 φ2 st'.H b → okG C φ H' b := fun b hk => by
    refine ⟨?_, fun h h1 h2 => ?_⟩
    · rcases hk.1 with h | h
      · rw [hok0] at h; exact h.1
      · rw [h0] at h; exact .inr (Nat.le_trans g.below.size h)
    · obtain ⟨ob, e⟩ := Option.isSome_iff_exists.1 h1
      exact hk.2 (up h) (by rw [hin h ob e]; rfl) (by rw [hφ2 h h1]; exact h2)
  refine ⟨hb, g.size, g.defers, g.below.trans hb (fun b ⟨h, h1, h2⟩ => g.mine h b h1 h2), fun h b hs hb => g.mine h b (hd h hs) hb, fun h hk hs => g.keep h hk (hd h hs), fun h k b hne h1 h2 hb => g.disj h k b hne (hd h h1) (hd k h2) hb, fun h ob hob => ?_, fun t => ?_⟩
  · have hob' : H' h = some ob := hob
    have ho := g2.own (up h) _ (hin h ob hob')
    rw [hφ2 h (by rw [hob']; rfl)] at ho
    cases ob with
    | row ty sz es =>
      obtain ⟨xs, r1, r2, r3⟩ := ho
      exact ⟨xs, r1, r2.mono (fun b hb _ => hok b hb) (fun _ _ _ => rfl), r3⟩
    | nest ty tyI szI rows => exact nest_stay ho (fun _ _ => rfl) (fun r _ xs h => h.mono (fun b hb _ => hok b hb) (fun _ _ _ => rfl))
    | box ty cs =>
      obtain ⟨gb, arr, r1, r3, r4, r5⟩ := ho
      refine ⟨gb, arr, r1, r3, r4, ?_⟩
      exact RepVs_iff.1 (unrens_rep hin hφ2 hok cs arr.toList (fun k hk => hs.refs h _ hob' k hk) (RepVs_iff.2 r5))
  · exact RepV.same hs.toShH (fun b hk hlt => ⟨hk.1, fun h h1 h2 => hk.2 h (hd h h1) h2⟩) (fun b arr ty fr hk hb' => keep b hk (lt_of_heap hb')) (g.rep t)
def KeepsB (K : Nat → Prop) (A B : World) : Prop := ∀ k, K k → B.heap[k]? = A.heap[k]?
def roundAt (N : Nat) (env env1 : Nat → AV) (a : Act) (B : Nat) (a' : Act) (W : World) : Prop :=
  a'.tmps.size = N ∧ a'.defers = [] ∧ ∀ t, (env1 t = ren up (env t) ∧ a'.tmps.getD t undef = a.tmps.getD t undef) ∨ env1 t = .junk ∨ Rep W (fun b => B ≤ b) (env1 t) (a'.tmps.getD t undef)
theorem wp_range {n m : Nat} (h1 : 1 ≤ m) {gop : Operand} {ps : Array Tmp} {assign body : Code} {Q : Exit → Act → World → Prop} {Hk : List Nat → Nat → Option OB}
    (g : GamW C { env := env, H := Hk [] } φ a W) (hsm : ∀ pre x, SameH (Hk pre) (Hk (pre ++ [x]))) (hdom : ∀ pre h, (Hk pre h).isSome = true → (Hk [] h).isSome = true)
    {gf : Nat} {lb : Array Value} (hg : a.eval gop = .func (.func gf) #[] lb) (eg : ∀ args w, (callFunc gf args).run P w = .ok (.enter gf args) w)
    {encs : Nat → Array Value} {K : Nat → Prop} {S : List Nat → Prop} (hseq : SeqStopsK Fence.wide (m - 1) P gf lb encs (KeepsB K) S (fun _ => True) n W)
    (hK : ∀ k, K k → k < W.heap.size ∧ ∀ h, (Hk [] h).isSome = true → ¬ Blk (φ h) k) (hps : ∀ x, (encs x).size = ps.size)
    (env1 : Nat → Nat → AV)
    (hassign : ∀ (l x : Nat) (W1 : World) (K : Act → World → Prop), W.heap.size ≤ W1.heap.size → (∀ a' W', Below W1.heap.size W1 W' → roundAt C.N env (env1 x) a W.heap.size a' W' → K a' W') →
      assign.wpIn (Fence.wide.inRound l) (m - 1 - 1) P (Exit.then K (fun _ _ _ => False)) { tmps := (ps.zip (encs x)).foldl (fun t (p, v) => t.setIfInBounds p v) a.tmps, defers := [] } W1)
    (hbody : ∀ pre x, pre.length < n → GoodR P C.N body (fun e st' => e = .normal ∧ ∀ h, (Hk pre h).isSome = true → st'.H (up h) = (Hk (pre ++ [x]) h).map (renO up)) { env := env1 x, H := shiftH (Hk pre) })
    (hdone : ∀ (D : Nat) (xs : List Nat) (W' : World), W.heap.size ≤ D → S xs → GamW C { env := env, H := Hk xs } φ a W' → W'.heap[D]? = some (.deferred (some [])) →
      Q .normal { a with defers := { target := .collected D, args := #[] } :: a.defers } W') :
    (Code.rangeFunc gop ps assign body).wpIn Fence.wide m P Q a W := by
  have hblk : ∀ pre h b, (Hk pre h).isSome = true → Blk (φ h) b → b < W.heap.size := fun pre h b hs hb => by
    obtain ⟨ob, hob⟩ := Option.isSome_iff_exists.1 (hdom pre h hs)
    exact blk_lt (g.own h ob hob) hb
  refine wpIn_rangeFunc_ownH (F := Fence.wide) rfl h1 hg trivial eg (Kp := KeepsB K) (Sp := fun _ => True) hseq (fun h k i hi => (k i hi).trans (h i hi)) (fun W2 l o o' hl ho _ _ k hk => ?_) (Below.refl _ _) hps
    (fun pre W' => GamW C { env := env, H := Hk pre } φ a W' ∧ W.heap.size ≤ W'.heap.size) (fun _ _ _ => False) (fun pre A B row hi hg hr => ?_) (fun _ _ _ _ _ hi _ _ => hi) ⟨g, Nat.le_refl _⟩
    (fun x a' W' => roundAt C.N env (env1 x) a W.heap.size a' W') (fun x a' _ A B row hi hg hr => ?_) (fun l pre x W1 K2 hi hk => ?_) ?_ (fun D xs W' hD hS hi hh => hdone D xs W' hD hS hi.1 hh) (fun _ _ _ _ _ _ hi _ => hi.elim)
  · exact World.putObj_heap_other (by have := (hK k hk).1; omega)
  · exact ⟨hi.1.turned hg fun r e => ⟨Nat.le_trans g.below.size (hr r e).1, (hr r e).2⟩, Nat.le_trans hi.2 hg.size⟩
  · refine ⟨hi.1, hi.2.1, fun t => ?_⟩
    rcases hi.2.2 t with h | h | h
    · exact .inl h
    · exact .inr (.inl h)
    · refine .inr (.inr (h.cmono (fun b hb _ => hb) (fun b arr ty fr _ hb => hg.block b (lt_of_heap hb) fun e => ?_)))
      obtain ⟨-, o, ho, hn⟩ := hr b e.symm
      rw [hb] at ho; cases ho; cases hn
  · refine hassign l x W1 K2 hi.2 fun a' W' hb ha => hk a' W' ⟨hb.size, fun k o _ hk _ => (hb.block k (lt_of_heap hk)).trans hk⟩ (fun k hk => hb.block k (Nat.lt_of_lt_of_le (hK k hk).1 hi.2)) ⟨hi.1.quiet hb, Nat.le_trans hi.2 hb.size⟩ ha
  · intro l pre x a' W1 _ _ ⟨hi, hle⟩ ha hlen
    obtain ⟨C1, e1, e2, e5, e3, e4, gr⟩ := hi.round a' (env1 x) ha.1 ha.2.1 (fun t => by
      rcases ha.2.2 t with h | h | h
      · exact .inl h
      · exact .inr (.inl h)
      · refine .inr (.inr (h.mono (fun b hb _ => ⟨.inr (Nat.le_trans g.below.size hb), fun h hs hb' => ?_⟩) (fun _ _ _ => rfl)))
        have := hblk pre h b hs hb'
        omega)
    refine wpIn_mono (hbody pre x hlen l (m - 1 - 1) C1 e1 a' W1 gr) ?_
    rintro e a2 W2 ⟨st', -, ⟨rfl, hH⟩, g2⟩
    obtain ⟨hb, g3⟩ := hi.roundEnd (hsm pre x) e2 e5 e3 e4 g2 hH
    refine ⟨⟨hb.size, fun k o _ hk ho => ?_⟩, fun k hk => ?_, g3, Nat.le_trans hle hb.size⟩
    · refine (hb.block k (lt_of_heap hk) fun ⟨h, h1, h2⟩ => ?_).trans hk
      obtain ⟨arr, ty, fr, hc⟩ := hi.cells h1 h2
      rw [hk] at hc; cases hc; cases ho
    · have hlt : k < W1.heap.size := by have := (hK k hk).1; omega
      exact hb.block k hlt fun ⟨h, h1, h2⟩ => (hK k hk).2 h (hdom pre h h1) h2
end
/-! ### A function whose code holds such a statement -/
section
variable {P : Program} {N n : Nat} {st : St}
def GoodW (P : Program) (n N : Nat) (c : Code) (R : Ctx P → Exit → Act → World → Prop) (st : St) : Prop :=
  ∀ (C : Ctx P), C.N = N → ∀ a w, Gam C st a w → c.wpIn Fence.wide n P (R C) a w
theorem goodW_seq {x y : Code} {R : Ctx P → Exit → Act → World → Prop} (h : ∀ K : St → Prop, (∀ s, GoodW P n N y R s → K s) → Good P N x (thenQ K fun _ _ => False) st) : GoodW P n N (.seq x y) R st := fun C hC a w g => by
  refine wpIn_seq (wpIn_wide.2 (wp_mono (h (GoodW P n N y R) (fun _ h => h) C hC a w g) ?_))
  intro e a' w' ⟨s, h1, h2⟩
  cases e with
  | normal => exact h1 C hC a' w' h2
  | _ => exact h1.elim
theorem goodW_seq2 {x y z : Code} {R : Ctx P → Exit → Act → World → Prop} (h : ∀ K : St → Prop, (∀ s, GoodW P n N z (fun C => Exit.then (y.wpIn Fence.wide n P (R C)) (R C)) s → K s) → Good P N x (thenQ K fun _ _ => False) st) :
    GoodW P n N (.seq (.seq x z) y) R st := fun C hC a w g => by
  refine wpIn_seq (wpIn_seq (wpIn_wide.2 (wp_mono (h _ (fun _ h => h) C hC a w g) ?_)))
  intro e a' w' ⟨s, h1, h2⟩
  cases e with
  | normal => exact h1 C hC a' w' h2
  | _ => exact h1.elim
def EVR (P : Program) (Q : St → Prop) : List Oper → St → Prop
  | [], st => Q st
  | o :: rest, st => o.guard = none ∧ OpQ P st o.op fun v => EVR P Q rest (st.put o.dst v)
theorem EVR_sound {C : Ctx P} {ops : Array Oper} {φ : Nat → Value} {D : List Deferred} {Q : St → Prop} {Q' : Exit → Act → World → Prop} {w0 : World} (hQ : ∀ s a w', Q s → GamW C s φ a w' → Below w0.heap.size w0 w' → Q' .normal { a with defers := D } w') :
    ∀ (l : List Oper) (st : St) (a : Act) (w : World), dstsOk C.N l = true → EVR P Q l st → GamW C st φ a w → Below w0.heap.size w0 w → wpList P ops Q' l { a with defers := D } w
  | [], st, a, w, _, h, g, hb => hQ st a w h g hb
  | o :: rest, st, a, w, hN, h, g, hb => by
    have hN1 := dstsOk_mem hN (o := o) (by simp)
    have hN2 : dstsOk C.N rest = true := by simp only [dstsOk, List.all_cons, Bool.and_eq_true] at hN; exact hN.2
    unfold wpList
    rw [show Region.wanted o (yielded ops ({ a with defers := D } : Act).tmps) = true by simp [Region.wanted, h.1]]
    simp only [if_true]
    refine .inl (wp_defers (opQ_wp g h.2.out fun v x w' hK hbl hr => ?_))
    have g2 := (g.quiet hbl).put hr o.dst hN1
    exact ⟨g2.defers, EVR_sound hQ rest _ _ _ hN2 hK g2 (hb.trans (hbl.mono hb.size))⟩
def endM (rs : List ResultVar) (r : AV) (C : Ctx P) (e : Exit) (a' : Act) (w' : World) : Prop :=
  (e = .ret ∨ e = .normal) ∧ ∃ D a0 s, a' = { a0 with defers := [{ target := .collected D, args := #[] }] } ∧ C.w0.heap.size ≤ D ∧ w'.heap[D]? = some (.deferred (some [])) ∧ Gam C s a0 w' ∧ resQ P s rs fun v => v = r
theorem tail_ok {C : Ctx P} {φ : Nat → Value} {a : Act} {w : World} {id D : Nat} {l : List Oper} {rs : List ResultVar} {r : AV} (hN : dstsOk C.N l = true) (hD : C.w0.heap.size ≤ D) (hh : w.heap[D]? = some (.deferred (some []))) (g : GamW C st φ a w)
    (h : EVR P (fun s => resQ P s rs fun v => v = r) l st) : ((Code.region id l.toArray false).seq .ret).wpIn Fence.wide n P (endM rs r C) { a with defers := { target := .collected D, args := #[] } :: a.defers } w := by
  rw [g.defers]
  refine wpIn_wide.2 (wp_seq (wp_region_lit (EVR_sound (w0 := w) (Q' := Exit.then (Code.ret.wp P (endM rs r C)) (endM rs r C)) (fun s a w' hQ g' hb => wp_ret ⟨.inl rfl, D, a, s, rfl, hD, (hb.block D (lt_of_heap hh)).trans hh, ⟨φ, g'⟩, hQ⟩) l st a w hN h g (Below.refl _ _))))
theorem den_of_goodW {f : Nat} {fn : Func} {c : Code} {args : List AV} {r : AV} (hf : P.funcs[f]? = some fn) (hname : (fn.name == "runtime.NumGoroutine") = false) (hb : fn.body = some c) (hl : args.length ≤ fn.ntmps) (hsm : fn.ntmps ≤ 1000000)
    (h : GoodW P n fn.ntmps c (endM fn.results.toList r) { env := initE 0 args, H := fun _ => none }) : Den P f args r := by
  refine ⟨⟨fn, hf, hname, by rw [hb]; rfl⟩, fun w ok vs hglb hvs => callsIn_wide.1 (callsIn_of_wp_marks (n := n) hf hb trivial ?_ rfl)⟩
  let C : Ctx P := { w0 := w, ok0 := ok, N := fn.ntmps, M := fun _ => False, φ0 := fun _ => undef, small := hsm, glb := hglb.mono (fun b hb _ => ⟨hb, fun h => h⟩) (fun _ _ _ => rfl) }
  have hlen : vs.length = args.length := hvs.length
  have g : GamW C { env := initE 0 args, H := fun _ => none } (fun _ => undef) { tmps := vs.toArray ++ Array.replicate (fn.ntmps - vs.toArray.size) undef, defers := [] } w := by
    refine ⟨(by simp [C]; omega), rfl, BelowM.refl _ _, (fun _ _ h => by cases h), (fun _ _ h => by cases h), (fun _ _ _ _ h => by cases h), (fun _ _ h => by cases h), fun t => ?_⟩
    simp only [initE_get, Nat.sub_zero, Nat.not_lt_zero, if_false]
    by_cases ht : t < args.length
    · have h1 : args[t]? = some args[t] := List.getElem?_eq_getElem ht
      obtain ⟨v, hv, hr⟩ := hvs.get h1
      have e1 : args.getD t .junk = args[t] := by simp [List.getD, h1]
      have e2 : (vs.toArray ++ Array.replicate (fn.ntmps - vs.toArray.size) undef).getD t undef = v := by
        simp only [Array.getD_eq_getD_getElem?]
        rw [Array.getElem?_append_left (by simp; omega)]
        simp [hv]
      rw [e1, e2]
      exact RepV.of (hr.mono (fun b hb _ => ⟨.inl hb, fun _ h => by cases h⟩) (fun _ _ _ => rfl))
    · have e1 : args.getD t .junk = .junk := by simp [List.getD, List.getElem?_eq_none (Nat.le_of_not_lt ht)]
      rw [e1]; trivial
  refine wpIn_mono (h C rfl _ w ⟨_, g⟩) ?_
  rintro e a' w' ⟨he, D, a0, s, rfl, hD, hh, ⟨φ, g'⟩, hq⟩
  have fin : LeavesInM Fence.wide n P fn a0.tmps (fun e w' => ∃ v, e = .returned v ∧ Below w.heap.size w w' ∧ Rep w' (fun b => ok b ∨ w.heap.size ≤ b) r v) [{ target := .collected D, args := #[] }] .returning w' := by
    have g2 : GamW C { env := s.env, H := s.H } φ a0 (w'.putObj D (.deferred none)) := GamW.turned g' (grownBy_putObj' w' D _) fun r e => by
      cases e; exact ⟨hD, _, hh, rfl⟩
    obtain ⟨r', x, rfl, h2, h3⟩ := resQ_sound (st := { env := s.env, H := s.H }) g2 hq
    exact ⟨(fun e => by cases e), .inl ⟨D, _, rfl, run_takeDeferred hh, x, h3, x, rfl, g2.below.below (fun _ h => h), h2.weak fun b hb => hb.resolve_right (fun h => h)⟩⟩
  rcases he with rfl | rfl
  · exact fin
  · exact fin
theorem wp_valueR {a : Act} {w w' : World} {o : Oper} {l m : Nat} {v : Value} {next : Act → World → Prop} {Q : Exit → Act → World → Prop} (hnd : noDefB o = true) (h : (execOp a.eval o).run P w = .ok (.value v) w') (hn : next (a.put o.dst v) w') :
    o.wpIn (Fence.wide.inRound l) m P a w next Q := by
  refine ⟨fun _ _ => trivial, ?_⟩
  rw [Fence.inRound_round, Oper.semAt_eq _ _ _ (noDefB_ne hnd), h]
  exact hn
theorem assign_box {a : Act} {W1 : World} {id l m elem tb tv : Nat} {cs : List AV} (hz : zeroA P elem = some cs) {vs : Array Value} (hvs : vs.size = cs.length) (h1 : ∀ v ∈ vs.toList, v.oneCell' = true) {o1 o2 : Oper}
    (ho1 : o1.op = .alloc elem) (hd1 : o1.dst = some tb) (hg1 : o1.guard = none) (ho2 : o2.op = .store elem (.tmp tb) (.tmp tv)) (hd2 : o2.dst = none) (hg2 : o2.guard = none) (hne : tb ≠ tv) (htb : tb < a.tmps.size) (hv : a.tmps.getD tv undef = .agg vs)
    (hsz : ∀ i, P.info? elem = some i → i.size = cs.length) {K : Act → World → Prop}
    (hK : ∀ W', Below W1.heap.size W1 W' → W'.heap[W1.heap.size]? = some (.cells vs elem (0, 0)) → K (a.put (some tb) (.pointer (some ⟨W1.heap.size, 0, none⟩))) W') :
    (Code.region id #[o1, o2] false).wpIn (Fence.wide.inRound l) m P (Exit.then K (fun _ _ _ => False)) a W1 := by
  obtain ⟨i, z, hi, hzz, hz1, rfl⟩ := zeroA_some hz
  have hzl : z.cells.size = vs.size := by rw [hvs]; simp
  refine wpIn_region_lit (l := [o1, o2]) ?_
  unfold wpListIn
  rw [show Region.wanted o1 (yielded [o1, o2].toArray a.tmps) = true by simp [Region.wanted, hg1]]
  simp only [if_true]
  refine wp_valueR (v := .pointer (some ⟨W1.heap.size, 0, none⟩)) (w' := W1.alloc (.cells z.cells elem)) (by unfold noDefB; rw [ho1]) (by simp [execOp, ho1, Instr.alloc, zeroValue, typeInfo, hi, hzz, newVar, newRow]) ?_
  unfold wpListIn
  rw [show Region.wanted o2 (yielded [o1, o2].toArray (a.put o1.dst (Value.pointer (some ⟨W1.heap.size, 0, none⟩))).tmps) = true by simp [Region.wanted, hg2]]
  simp only [if_true]
  have hnew : (W1.alloc (.cells z.cells elem)).heap[W1.heap.size]? = some (.cells z.cells elem (0, 0)) := heap_alloc_new W1 _
  have hrun := run_storeVar (P := P) hi (g := W1.heap.size) (o := 0) hnew (x := .agg vs) (by show vs.toList.length = _; rw [Array.length_toList, hvs]; exact (hsz i hi).symm) (by show 0 + vs.toList.length ≤ _; simp [hzl]) h1
  rw [show (Value.agg vs).cells = vs from rfl] at hrun
  have e1 : (a.put o1.dst (Value.pointer (some ⟨W1.heap.size, 0, none⟩))).eval (.tmp tb) = .pointer (some ⟨W1.heap.size, 0, none⟩) := by
    rw [hd1]; simp [Act.put, Act.eval, htb]
  have e2 : (a.put o1.dst (Value.pointer (some ⟨W1.heap.size, 0, none⟩))).eval (.tmp tv) = .agg vs := by
    rw [hd1, ← hv]; simp [Act.put, Act.eval, Array.getElem?_setIfInBounds, hne]
  have hnd2 : noDefB o2 = true := by unfold noDefB; rw [ho2]
  have hst : (execOp (a.put o1.dst (Value.pointer (some ⟨W1.heap.size, 0, none⟩))).eval o2).run P (W1.alloc (.cells z.cells elem)) = .ok .skip ((W1.alloc (.cells z.cells elem)).setRow W1.heap.size (spliceV z.cells.toList 0 vs.toList).toArray) := by
    have h0 : (Instr.storeAt elem (.pointer (some ⟨W1.heap.size, 0, none⟩)) (.agg vs)).run P (W1.alloc (.cells z.cells elem)) = .ok () ((W1.alloc (.cells z.cells elem)).setRow W1.heap.size (spliceV z.cells.toList 0 vs.toList).toArray) := by simpa [Instr.storeAt, Instr.sureAddr] using hrun
    simp only [execOp, ho2, e1, e2, Sem.run_bind, h0, Result.andThen_ok]
    rfl
  refine ⟨fun _ _ => trivial, ?_⟩
  rw [Fence.inRound_round, Oper.semAt_eq _ _ _ (noDefB_ne hnd2), hst]
  rw [Oper.uponIn_skip, hd2, hd1]
  show K _ _
  refine hK _ ⟨rfl, rfl, rfl, ?_, fun k hk => ?_⟩ ?_
  · simp [World.setRow]
  · rw [setRow_other _ _ _ _ (by omega)]; exact heap_alloc_old W1 _ hk
  · refine (setRow_heap _ _ _ _ _ _ hnew).trans ?_
    have e : (spliceV z.cells.toList 0 vs.toList).toArray = vs := by
      unfold spliceV
      rw [List.take_zero, List.nil_append, List.drop_eq_nil_of_le (by simp [hzl]), List.append_nil]
    rw [e]
theorem goodW_join {x y : Code} {R : Ctx P → Exit → Act → World → Prop} (stj : St) (hx : Good P N x (thenQ (fun s => Sub N s stj) fun _ _ => False) st) (hy : GoodW P n N y R stj) : GoodW P n N (.seq x y) R st :=
  goodW_seq fun K hK => good_mono hx fun e s h => by
    cases e with
    | normal => exact hK s fun C hC a w g => hy C hC a w (h C hC a w g)
    | _ => exact h
theorem goodW_weak {c : Code} {R : Ctx P → Exit → Act → World → Prop} {st' : St} (h : Sub N st st') (k : GoodW P n N c R st') : GoodW P n N c R st := fun C hC a w g => k C hC a w (h C hC a w g)
theorem goodR_condT {c : Operand} {x y : Code} {Q : Exit → St → Prop} (hc : st.ev c = .s (.bool true)) (h : GoodR P N x Q st) : GoodR P N (.cond c x y) Q st := goodR_cond hc (fun _ => h) (fun e => by cases e)
theorem goodR_condF {c : Operand} {x y : Code} {Q : Exit → St → Prop} (hc : st.ev c = .s (.bool false)) (h : GoodR P N y Q st) : GoodR P N (.cond c x y) Q st := goodR_cond hc (fun e => by cases e) (fun _ => h)
theorem goodW_range {id id2 id3 p0 tb tv elem Nn : Nat} {l : List Oper} {rs : List ResultVar} {r : AV} {Hk : List Nat → Nat → Option OB} {env : Nat → AV} {gop : Operand} {body : Code} {o1 o2 : Oper} (h1 : 1 ≤ n)
    (hsm : ∀ pre x, SameH (Hk pre) (Hk (pre ++ [x]))) (hdom : ∀ pre h, (Hk pre h).isSome = true → (Hk [] h).isSome = true)
    {gf : Nat} (eg : ∀ args w, (callFunc gf args).run P w = .ok (.enter gf args) w) {vsx : Nat → Array Value} {S : List Nat → Prop}
    (hseq : ∀ (C : Ctx P) (φ : Nat → Value) (a : Act) (w : World), GamW C { env := env, H := Hk [] } φ a w → ∃ lb K, a.eval gop = .func (.func gf) #[] lb ∧
      SeqStopsK Fence.wide (n - 1) P gf lb (fun x : Nat => #[.int .i64 (x : Int), .agg (vsx x)]) (KeepsB K) S (fun _ => True) Nn w ∧ ∀ k, K k → k < w.heap.size ∧ ∀ h, (Hk [] h).isSome = true → ¬ Blk (φ h) k)
    {cs : List AV} (hz : zeroA P elem = some cs) (hvs : ∀ x, (vsx x).size = cs.length) (hv1 : ∀ x, ∀ v ∈ (vsx x).toList, v.oneCell' = true)
    (ho1 : o1.op = .alloc elem) (hd1 : o1.dst = some tb) (hg1 : o1.guard = none) (ho2 : o2.op = .store elem (.tmp tb) (.tmp tv)) (hd2 : o2.dst = none) (hg2 : o2.guard = none)
    (hlt : tb < N ∧ tv < N ∧ tb ≠ tv ∧ p0 ≠ tv) (hsz : ∀ i, P.info? elem = some i → i.size = cs.length) (henv : env p0 = .junk ∧ env tv = .junk)
    {avx : Nat → List AV} (hav : ∀ x w ok, Reps w ok (avx x) (vsx x).toList)
    (hbody : ∀ pre x, pre.length < Nn → GoodR P N body (fun e st' => e = .normal ∧ ∀ h, (Hk pre h).isSome = true → st'.H (up h) = (Hk (pre ++ [x]) h).map (renO up)) { env := upd (fun t => ren up (env t)) tb (.rp (avx x)), H := shiftH (Hk pre) })
    (hl : dstsOk N l = true) (htail : ∀ xs, S xs → EVR P (fun s => resQ P s rs fun v => v = r) l { env := env, H := Hk xs }) :
    GoodW P n N (.block id (.rangeFunc gop #[p0, tv] (.region id3 #[o1, o2] false) body)) (fun C => Exit.then (((Code.region id2 l.toArray false).seq .ret).wpIn Fence.wide n P (endM rs r C)) (endM rs r C)) { env := env, H := Hk [] } := fun C hC a w ⟨φ, g⟩ => by
  subst hC
  obtain ⟨lb, K, hg, hsq, hK⟩ := hseq C φ a w g
  have hsz0 := g.size
  refine wpIn_block (wp_range h1 g hsm hdom hg eg hsq hK (fun _ => rfl) (fun x => upd (fun t => ren up (env t)) tb (.rp (avx x))) (fun l2 x W1 K2 hle hk => ?_) (fun pre x hp => hbody pre x hp) (fun D xs W' hD hS hi hh => ?_))
  · have ez : Array.foldl (fun (t : Array Value) (x : Tmp × Value) => match x with | (p, v) => t.setIfInBounds p v) a.tmps (#[p0, tv].zip #[Value.int IntKind.i64 (x : Int), Value.agg (vsx x)]) = (a.tmps.setIfInBounds p0 (.int .i64 (x : Int))).setIfInBounds tv (.agg (vsx x)) := by simp
    rw [ez]
    show (Code.region id3 #[o1, o2] false).wpIn _ _ _ _ { tmps := (a.tmps.setIfInBounds p0 (.int .i64 (x : Int))).setIfInBounds tv (.agg (vsx x)), defers := [] } W1
    refine assign_box hz (hvs x) (hv1 x) ho1 hd1 hg1 ho2 hd2 hg2 hlt.2.2.1 (by simp [hsz0, hlt.1]) (by simp [hsz0, hlt.2.1]) hsz fun W' hb hnew => hk _ W' hb ⟨by simp [Act.put, hsz0], rfl, fun t => ?_⟩
    by_cases e1 : t = tb
    · refine .inr (.inr ?_)
      subst e1
      rw [upd_same]
      have e : ((({ tmps := (a.tmps.setIfInBounds p0 (.int .i64 (x : Int))).setIfInBounds tv (.agg (vsx x)), defers := [] } : Act).put (some t) (.pointer (some ⟨W1.heap.size, 0, none⟩))).tmps.getD t undef) = .pointer (some ⟨W1.heap.size, 0, none⟩) := by
        simp [Act.put, hsz0, hlt.1]
      rw [e]
      exact Rep.rp (a := ⟨W1.heap.size, 0, none⟩) (rest := []) rfl hle hnew (by simp) (hv1 x) (hav x _ _)
    · rw [upd_ne _ _ e1]
      by_cases e2 : t = tv
      · rw [e2, henv.2]; exact .inr (.inl rfl)
      · by_cases e3 : t = p0
        · rw [e3, henv.1]; exact .inr (.inl rfl)
        · refine .inl ⟨rfl, ?_⟩
          simp [Act.put, Array.getD_eq_getD_getElem?, Array.getElem?_setIfInBounds, Ne.symm e1, Ne.symm e2, Ne.symm e3]
  · exact tail_ok hl (Nat.le_trans g.below.size hD) hh hi (htail xs hS)
end
/-! ### Small laws for such a statement -/
theorem updS {α : Type} {H : Nat → Option α} {k h : Nat} {o : α} (hh : (upd H k (some o) h).isSome = true) : h = k ∨ (H h).isSome = true := by
  by_cases e : h = k
  · exact .inl e
  · rw [upd_ne _ _ e] at hh; exact .inr hh
theorem sameH_none : SameH (fun _ => none) (fun _ => none) := ⟨⟨fun _ _ _ _ h => (by cases h), fun _ _ _ h => (by cases h), fun _ _ _ _ _ h => (by cases h)⟩, fun _ h => h, fun _ _ h => (by cases h)⟩
theorem upd_some {H : Nat → Option OB} {k j : Nat} {o : OB} (h : (H j).isSome = true) : (upd H k (some o) j).isSome = true := by
  by_cases e : j = k
  · rw [e, upd_same]; rfl
  · rw [upd_ne _ _ e]; exact h
theorem sameH_row {H H' : Nat → Option OB} {k ty sz : Nat} {es es' : List AV} (hl : es.length ≤ es'.length) (h : SameH H H') : SameH (upd H k (some (.row ty sz es))) (upd H' k (some (.row ty sz es'))) := by
  refine ⟨⟨fun j t z e hj => ?_, fun j t c hj => ?_, fun j t y z r hj => ?_⟩, fun j hj => ?_, fun j ob hj i hi => ?_⟩
  · by_cases e1 : j = k
    · rw [e1, upd_same] at hj ⊢; cases hj; exact ⟨es', rfl, hl⟩
    · rw [upd_ne _ _ e1] at hj ⊢; exact h.row j t z e hj
  · by_cases e1 : j = k
    · rw [e1, upd_same] at hj; cases hj
    · rw [upd_ne _ _ e1] at hj ⊢; exact h.box j t c hj
  · by_cases e1 : j = k
    · rw [e1, upd_same] at hj; cases hj
    · rw [upd_ne _ _ e1] at hj ⊢; exact h.nest j t y z r hj
  · rcases updS hj with e1 | hj
    · rw [e1, upd_same]; rfl
    · exact upd_some (h.back j hj)
  · by_cases e1 : j = k
    · rw [e1, upd_same] at hj; cases hj; cases hi
    · rw [upd_ne _ _ e1] at hj; exact upd_some (h.refs j ob hj i hi)
theorem sameH_box {H H' : Nat → Option OB} {k ty : Nat} {cs : List AV} (hr : ((refsAs cs).all fun j => (H' j).isSome) = true) (h : SameH H H') : SameH (upd H k (some (.box ty cs))) (upd H' k (some (.box ty cs))) := by
  refine ⟨⟨fun j t z e hj => ?_, fun j t c hj => ?_, fun j t y z r hj => ?_⟩, fun j hj => ?_, fun j ob hj i hi => ?_⟩
  · by_cases e1 : j = k
    · rw [e1, upd_same] at hj; cases hj
    · rw [upd_ne _ _ e1] at hj ⊢; exact h.row j t z e hj
  · by_cases e1 : j = k
    · rw [e1, upd_same] at hj ⊢; cases hj; exact ⟨cs, rfl⟩
    · rw [upd_ne _ _ e1] at hj ⊢; exact h.box j t c hj
  · by_cases e1 : j = k
    · rw [e1, upd_same] at hj; cases hj
    · rw [upd_ne _ _ e1] at hj ⊢; exact h.nest j t y z r hj
  · rcases updS hj with e1 | hj
    · rw [e1, upd_same]; rfl
    · exact upd_some (h.back j hj)
  · by_cases e1 : j = k
    · rw [e1, upd_same] at hj; cases hj
      exact upd_some (List.all_eq_true.1 hr i hi)
    · rw [upd_ne _ _ e1] at hj; exact upd_some (h.refs j ob hj i hi)
theorem dom_of_same {Hk : List Nat → Nat → Option OB} (h : ∀ pre x, SameH (Hk pre) (Hk (pre ++ [x]))) : ∀ pre k, (Hk pre k).isSome = true → (Hk [] k).isSome = true := by
  have gen : ∀ (n : Nat) (pre : List Nat), pre.length = n → ∀ k, (Hk pre k).isSome = true → (Hk [] k).isSome = true := by
    intro n
    induction n with
    | zero => intro pre hl k hk; rw [List.eq_nil_of_length_eq_zero hl] at hk; exact hk
    | succ n ih =>
      intro pre hl k hk
      obtain ⟨l, x, rfl⟩ : ∃ l x, pre = l ++ [x] := by
        rcases List.eq_nil_or_concat pre with h | ⟨l, x, h⟩
        · rw [h] at hl; cases hl
        · exact ⟨l, x, by rw [h]; simp⟩
      exact ih l (by simp at hl; omega) k ((h l x).back k hk)
  exact fun pre => gen _ pre rfl
theorem enters {P : Program} {f : Nat} {fn : Func} (hfn : P.funcs[f]? = some fn) (hname : (fn.name == "runtime.NumGoroutine") = false) (hb : fn.body.isSome = true) : ∀ args w, (callFunc f args).run P w = .ok (.enter f args) w := by
  intro args w
  have hb2 : ¬ fn.body = none := by cases hfb : fn.body <;> simp_all
  have hname' : ¬ fn.name = "runtime.NumGoroutine" := by simpa using hname
  simp [callFunc, hfn, hname', hb2]
theorem size_of_tAgg {P : Program} {t n : Nat} (h : tAgg P t = some (some n)) : ∀ i, P.info? t = some i → i.size = n := by
  intro i hi
  obtain ⟨_, j, _, hj, e, _⟩ := tAgg_some h
  rw [hi] at hj; cases hj; exact e
theorem s_boxR {P : Program} {st : St} {elem t' : TypeId} {x : Operand} {v : AV} {cs : List AV} {K : St → Prop} {dst : Option Tmp} {pos : String} {aft : Array Edge} {gd : Option (Nat × Bool)} (hx : st.ev x = v) (hb : boxOk v = true) (hro : (flat v).all isRO = true) (hf : flat v = cs)
    (h : K (st.put dst (.rp cs))) : StepN P st { dst := dst, op := .box elem x, type := t', pos := pos, after := aft, guard := gd } K := by
  intro C φ a w g hN next Q hnx
  subst hf
  have hxr := g.ev x
  rw [hx] at hxr
  obtain ⟨h2, h1⟩ := boxOk_cells hb hxr
  have hg := grown_alloc w (.cells (a.eval x).cells elem)
  have hbel : Below w.heap.size w (w.alloc (.cells (a.eval x).cells elem)) := ⟨hg.os, hg.tape, hg.output, hg.size, fun k hk => hg.block k hk (fun e => by cases e)⟩
  have hreps : Reps (w.alloc (.cells (a.eval x).cells elem)) (okG C φ st.H) (flat v) (a.eval x).cells.toList := (h2.reps hro).mono (fun _ h _ => h) (fun b _ hlt => hbel.block b hlt)
  have hok : okG C φ st.H w.heap.size := ⟨.inr g.below.size, fun k hk hb => by
    obtain ⟨ob, hob⟩ := Option.isSome_iff_exists.1 hk
    have := blk_lt (g.own k _ hob) hb
    omega⟩
  have hrep : Rep (w.alloc (.cells (a.eval x).cells elem)) (okG C φ st.H) (.rp (flat v)) (.pointer (some ⟨w.heap.size, 0, none⟩)) :=
    Rep.rp (a := ⟨w.heap.size, 0, none⟩) (arr := (a.eval x).cells) (ty := elem) (fr := (0, 0)) (vs := (a.eval x).cells.toList) (rest := []) rfl hok (heap_alloc_new w _) (by simp) h1 hreps
  have hrun : (execOp a.eval { dst := dst, op := .box elem x, type := t', pos := pos, after := aft, guard := gd }).run P w = .ok (.value (.pointer (some ⟨w.heap.size, 0, none⟩))) (w.alloc (.cells (a.eval x).cells elem)) := by
    simp [execOp, Instr.box, newVar, newRow]
  unfold Oper.wp
  rw [hrun]
  exact hnx _ _ _ h ⟨φ, (g.quiet hbel).put (RepV.of hrep) dst hN⟩
end Go.Proofs.Ytdnndlalflahhaa.Ev
