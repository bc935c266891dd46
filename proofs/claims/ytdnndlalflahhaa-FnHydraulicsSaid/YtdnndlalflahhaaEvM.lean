/- One lemma for each operation: what a walk through a function's code is made of. -/
import Derived.Test.YtdnndlalflahhaaEvL
set_option linter.unusedVariables false
set_option linter.unusedSimpArgs false
namespace Go.Proofs.Ytdnndlalflahhaa.Ev
open Go Go.RowKit
section
variable {P : Program} {ops : Array Oper} {Q : St → Prop} {st : St} {o : Oper} {rest : List Oper} {K : AV → Prop}
/-! ### Ways out -/
theorem thenQ_ret {K : St → Prop} {Q : Exit → St → Prop} {s : St} (h : Q .ret s) : thenQ K Q .ret s := h
theorem blockQ_ret {id : Nat} {Q : Exit → St → Prop} {s : St} (h : Q .ret s) : blockQ id Q .ret s := h
theorem thenQ_exit {K : St → Prop} {Q : Exit → St → Prop} {id : Nat} {s : St} (h : Q (.exit id) s) : thenQ K Q (.exit id) s := h
theorem blockQ_exit {id : Nat} {Q : Exit → St → Prop} {s : St} (h : Q .normal s) : blockQ id Q (.exit id) s := by
  simp only [blockQ, if_true]; exact h
theorem blockQ_pass {id id' : Nat} {Q : Exit → St → Prop} {s : St} (hne : (id' == id) = false) (h : Q (.exit id') s) : blockQ id Q (.exit id') s := by
  have : ¬ id' = id := by simpa using hne
  simp only [blockQ, if_neg this]; exact h
/-! ### Branches -/
theorem good_condT {N : Nat} {c : Operand} {x y : Code} {Q : Exit → St → Prop} (hc : st.ev c = .s (.bool true)) (h : Good P N x Q st) : Good P N (.cond c x y) Q st := good_cond hc (fun _ => h) (fun e => by cases e)
theorem good_condF {N : Nat} {c : Operand} {x y : Code} {Q : Exit → St → Prop} (hc : st.ev c = .s (.bool false)) (h : Good P N y Q st) : Good P N (.cond c x y) Q st := good_cond hc (fun e => by cases e) (fun _ => h)
/-! ### Statements -/
theorem ev_nil (h : Q st) : EVops P ops Q [] st := ⟨h⟩
theorem ev_skip (hg : wantedA ops o st = some false) (h : EVops P ops Q rest (st.put o.dst (.tup []))) : EVops P ops Q (o :: rest) st := by
  unfold EVops guardA; rw [hg]; exact ⟨by simpa using h⟩
structure OpQ (P : Program) (st : St) (op : Op) (K : AV → Prop) : Prop where
  out : opQ P st op K
structure OpK (P : Program) (st : St) (o : Oper) (K : St → Prop) : Prop where
  out : opK P st o K
theorem ev_k (hg : wantedA ops o st = some true) (h : OpK P st o (EVops P ops Q rest)) : EVops P ops Q (o :: rest) st := by
  unfold EVops guardA; rw [hg]; exact ⟨by simpa using .inl h.out⟩
theorem ev_n (hg : wantedA ops o st = some true) (h : StepN P st o (EVops P ops Q rest)) : EVops P ops Q (o :: rest) st := by
  unfold EVops guardA; rw [hg]; exact ⟨by simpa using .inr h⟩
theorem opK_of_opQ {K : St → Prop} (h : opQ P st o.op fun v => K (st.put o.dst v)) : opK P st o K := by
  obtain ⟨dst, op, type, pos, aft, guard⟩ := o
  unfold opQ at h
  cases op with
  | call c =>
    show callK P st _ c K
    unfold callK
    simp only at h
    cases hc : c.callee with
    | value f => rw [hc] at h; exact .inl h
    | invoke r m => rw [hc] at h; simp only at h; unfold biQ at h; rw [hc] at h; exact h.elim
    | builtin b =>
      rw [hc] at h
      simp only at h
      split <;> first
        | exact h
        | (rename_i e; cases e; done)
        | (exfalso; rename_i e _ _ _; cases e; simp only [biQ, hc] at h; done)
        | (exfalso; rename_i e; simp only [reduceCtorEq] at e; done)
        | (exfalso; simp_all [biQ]; done)
  | box => exact h.elim
  | alloc => exact h.elim
  | build => exact h.elim
  | buildSlice => exact h.elim
  | makeSlice => exact h.elim
  | store => exact h.elim
  | _ => exact .inl h
theorem ev_q (hg : wantedA ops o st = some true) (h : OpQ P st o.op fun v => EVops P ops Q rest (st.put o.dst v)) : EVops P ops Q (o :: rest) st := ev_k hg ⟨opK_of_opQ h.out⟩
theorem qo_nil (h : Q st) : QOps P ops Q [] st := ⟨h⟩
theorem qo_skip (hg : wantedA ops o st = some false) (h : QOps P ops Q rest (st.put o.dst (.tup []))) : QOps P ops Q (o :: rest) st := by
  unfold QOps guardA; rw [hg]; exact ⟨by simpa using h⟩
theorem qo_q (hg : wantedA ops o st = some true) (h : OpQ P st o.op fun v => QOps P ops Q rest (st.put o.dst v)) : QOps P ops Q (o :: rest) st := by
  unfold QOps guardA; rw [hg]; exact ⟨by simpa using h.out⟩
structure OneS (P : Program) (l : List Oper) (Q : St → Prop) (f : Nat) (listed : Array Bool) (st : St) (i : Nat) : Prop where
  out : ∃ o, l[i]? = some o ∧ guardA l.toArray o st (opK P st o (AnyS P l Q f (listed.setIfInBounds i true)) ∨ StepN P st o (AnyS P l Q f (listed.setIfInBounds i true))) (AnyS P l Q f (listed.setIfInBounds i true) (st.put o.dst (.tup [])))
def AnyL (P : Program) (l : List Oper) (Q : St → Prop) (f : Nat) (listed : Array Bool) (st : St) : List Nat → Prop
  | [] => True
  | i :: L => OneS P l Q f listed st i ∧ AnyL P l Q f listed st L
theorem AnyL_mem {P : Program} {l : List Oper} {Q : St → Prop} {f : Nat} {listed : Array Bool} {st : St} : ∀ {L : List Nat}, AnyL P l Q f listed st L → ∀ i ∈ L, OneS P l Q f listed st i
  | i :: L, h, j, hj => by
    rcases List.mem_cons.1 hj with e | e
    · subst e; exact h.1
    · exact AnyL_mem h.2 j e
section
variable {P : Program} {l : List Oper} {Q : St → Prop} {f i : Nat} {listed listed' : Array Bool} {st : St} {o : Oper}
theorem an_end (hr : Region.ready .any l.toArray listed = []) (h : Q st) : AnyS P l Q 0 listed st := ⟨⟨hr, h⟩⟩
theorem an_step (L : List Nat) (hr : Region.ready .any l.toArray listed = L) (hne : L.isEmpty = false) (h : AnyL P l Q f listed st L) : AnyS P l Q (f + 1) listed st :=
  ⟨⟨(fun h0 => by rw [h0] at hr; subst hr; cases hne), fun i hi => (AnyL_mem h i (hr ▸ hi)).out⟩⟩
theorem an_k (hl : listed.setIfInBounds i true = listed') (ho : l[i]? = some o) (hg : wantedA l.toArray o st = some true) (h : OpK P st o (AnyS P l Q f listed')) : OneS P l Q f listed st i := by
  subst hl
  refine ⟨o, ho, ?_⟩
  unfold guardA; rw [hg]; simpa using .inl h.out
theorem an_n (hl : listed.setIfInBounds i true = listed') (ho : l[i]? = some o) (hg : wantedA l.toArray o st = some true) (h : StepN P st o (AnyS P l Q f listed')) : OneS P l Q f listed st i := by
  subst hl
  refine ⟨o, ho, ?_⟩
  unfold guardA; rw [hg]; simpa using .inr h
theorem an_q (hl : listed.setIfInBounds i true = listed') (ho : l[i]? = some o) (hg : wantedA l.toArray o st = some true) (h : OpQ P st o.op fun v => AnyS P l Q f listed' (st.put o.dst v)) : OneS P l Q f listed st i :=
  an_k hl ho hg ⟨opK_of_opQ h.out⟩
theorem an_skip (hl : listed.setIfInBounds i true = listed') (ho : l[i]? = some o) (hg : wantedA l.toArray o st = some false) (h : AnyS P l Q f listed' (st.put o.dst (.tup []))) : OneS P l Q f listed st i := by
  subst hl
  refine ⟨o, ho, ?_⟩
  unfold guardA; rw [hg]; simpa using h
end
/-! ### Operations that leave memory as it is -/
theorem q_move {x : Operand} {v : AV} (hx : st.ev x = v) (h : K v) : OpQ P st (.move x) K := OpQ.mk <| by subst hx; exact h
theorem q_assign {x : Operand} {v : AV} (hx : st.ev x = v) (h : K v) : OpQ P st (.assign x) K := OpQ.mk <| by subst hx; exact h
theorem q_pickT {c a b : Operand} {v : AV} (hc : st.ev c = .s (.bool true)) (ha : st.ev a = v) (h : K v) : OpQ P st (.pick c a b) K := OpQ.mk <| by
  simp only [opQ, opQ0, hc, ha]; exact h
theorem q_pickF {c a b : Operand} {v : AV} (hc : st.ev c = .s (.bool false)) (hb : st.ev b = v) (h : K v) : OpQ P st (.pick c a b) K := OpQ.mk <| by
  simp only [opQ, opQ0, hc, hb]; exact h
def cellsOf (H : Nat → Option OB) : AV → Option (List AV)
  | .rp cs => some cs
  | .ptr h o => match H h with
    | some (.box _ cs) => some (cs.drop o)
    | _ => none
  | _ => none
theorem ptrQ_of {x : AV} {cs : List AV} {K : List AV → Prop} (hx : cellsOf st.H x = some cs) (h : K cs) : ptrQ st.H x K := by
  unfold ptrQ
  unfold cellsOf at hx
  split at hx
  · cases hx; exact h
  · split at hx
    · rename_i h1; cases hx; simp only [h1]; exact h
    · cases hx
  · cases hx
theorem q_load {t : TypeId} {x : Operand} {c : AV} {cs : List AV} (ht : tAgg P t = some none) (hx : cellsOf st.H (st.ev x) = some (c :: cs)) (h : K c) : OpQ P st (.load t x) K := OpQ.mk <| by
  simp only [opQ, opQ0, loadQ, ht]; exact ptrQ_of hx h
theorem q_loadA {t : TypeId} {x : Operand} {n : Nat} {cs ds : List AV} (ht : tAgg P t = some (some n)) (hx : cellsOf st.H (st.ev x) = some cs) (hn : decide (n ≤ cs.length) = true) (hd : cs.take n = ds) (h : K (.agg ds)) : OpQ P st (.load t x) K := OpQ.mk <| by
  subst hd
  simp only [opQ, opQ0, loadQ, ht]; exact ptrQ_of hx ⟨by simpa using hn, h⟩
theorem q_loadE {t : TypeId} {x : Operand} {k i o : Nat} {ty sz : Nat} {es : List AV} {e c : AV} {cs : List AV} (ht : tAgg P t = some none) (hx : st.ev x = .eptr k i o) (hH : st.H k = some (.row ty sz es)) (he : es[i]? = some e) (hd : (flat e).drop o = c :: cs) (h : K c) : OpQ P st (.load t x) K := OpQ.mk <| by
  simp only [opQ, opQ0, loadQ, ht, hx, ptrQ, hH]; exact ⟨e, he, by rw [hd]; exact h⟩
theorem q_loadEA {t : TypeId} {x : Operand} {k i o n : Nat} {ty sz : Nat} {es : List AV} {e : AV} {ds : List AV} (ht : tAgg P t = some (some n)) (hx : st.ev x = .eptr k i o) (hH : st.H k = some (.row ty sz es)) (he : es[i]? = some e) (hn : decide (n ≤ ((flat e).drop o).length) = true) (hd : ((flat e).drop o).take n = ds) (h : K (.agg ds)) : OpQ P st (.load t x) K := OpQ.mk <| by
  subst hd
  simp only [opQ, opQ0, loadQ, ht, hx, ptrQ, hH]; exact ⟨e, he, by simpa using hn, h⟩
def nilOk : AV → Bool
  | .rp _ => true
  | .ptr _ _ => true
  | .eptr _ _ _ => true
  | .fn _ _ => true
  | .clo _ _ => true
  | _ => false
theorem q_nilCheck {x : Operand} {v : AV} (hx : st.ev x = v) (hn : nilOk v = true) (h : K v) : OpQ P st (.nilCheck x) K := OpQ.mk <| by
  simp only [opQ, opQ0, hx]
  cases v <;> first | exact h | (simp [nilOk] at hn)
theorem q_int {op : BinOp} {t t' : TypeId} {x y : Operand} {k : IntKind} {a b : Int} (hx : st.ev x = .s (.int k a)) (hy : st.ev y = .s (.int k b)) (h : intBin op k a b K) : OpQ P st (.binOp op t x y t') K := OpQ.mk <| by
  simp only [opQ, opQ0, hx, hy, binQ]; exact ⟨.inl trivial, h⟩
theorem q_shl {t t' : TypeId} {x y : Operand} {k k' : IntKind} {a b : Int} (hx : st.ev x = .s (.int k a)) (hy : st.ev y = .s (.int k' b)) (h : intBin .shl k a b K) : OpQ P st (.binOp .shl t x y t') K := OpQ.mk <| by
  simp only [opQ, opQ0, hx, hy, binQ]; exact ⟨.inr (.inl trivial), h⟩
theorem q_shr {t t' : TypeId} {x y : Operand} {k k' : IntKind} {a b : Int} (hx : st.ev x = .s (.int k a)) (hy : st.ev y = .s (.int k' b)) (h : intBin .shr k a b K) : OpQ P st (.binOp .shr t x y t') K := OpQ.mk <| by
  simp only [opQ, opQ0, hx, hy, binQ]; exact ⟨.inr (.inr trivial), h⟩
theorem q_str {op : BinOp} {t t' : TypeId} {x y : Operand} {a b : ByteArray} (hx : st.ev x = .s (.string a)) (hy : st.ev y = .s (.string b)) (h : strBin op a b K) : OpQ P st (.binOp op t x y t') K := OpQ.mk <| by
  simp only [opQ, opQ0, hx, hy, binQ]; exact h
theorem q_beq {t t' : TypeId} {x y : Operand} {a b : Bool} (ht : tIsBool P t = true) (hx : st.ev x = .s (.bool a)) (hy : st.ev y = .s (.bool b)) (h : Let (a == b) fun r => K (.s (.bool r))) : OpQ P st (.binOp .eql t x y t') K := OpQ.mk <| by
  simp only [opQ, opQ0, hx, hy, binQ]; exact ⟨ht, h⟩
theorem q_bne {t t' : TypeId} {x y : Operand} {a b : Bool} (ht : tIsBool P t = true) (hx : st.ev x = .s (.bool a)) (hy : st.ev y = .s (.bool b)) (h : Let (!(a == b)) fun r => K (.s (.bool r))) : OpQ P st (.binOp .neq t x y t') K := OpQ.mk <| by
  simp only [opQ, opQ0, hx, hy, binQ]; exact ⟨ht, h⟩
theorem q_eqA {t t' : TypeId} {x y : Operand} {as bs : List AV} {ts : List Nat} {r0 : Bool} (ht : tEq P t = some ts) (hx : st.ev x = .agg as) (hy : st.ev y = .agg bs) (hr : eqC ts as bs = some r0) (ha : isROs as = true) (hb : isROs bs = true) (h : ∀ r, r = r0 → K (.s (.bool r))) : OpQ P st (.binOp .eql t x y t') K := OpQ.mk <| by
  simp only [opQ, opQ0, hx, hy, binQ]; exact ⟨ts, r0, ha, hb, ht, hr, fun r hr => h r hr⟩
theorem q_neA {t t' : TypeId} {x y : Operand} {as bs : List AV} {ts : List Nat} {r0 : Bool} (ht : tEq P t = some ts) (hx : st.ev x = .agg as) (hy : st.ev y = .agg bs) (hr : eqC ts as bs = some r0) (ha : isROs as = true) (hb : isROs bs = true) (h : ∀ r, r = (!r0) → K (.s (.bool r))) : OpQ P st (.binOp .neq t x y t') K := OpQ.mk <| by
  simp only [opQ, opQ0, hx, hy, binQ]; exact ⟨ts, r0, ha, hb, ht, hr, fun r hr => h r hr⟩
theorem q_neN {t t' : TypeId} {x : Operand} {u : TypeId} {z : Value} (ht : tIfc P t = true) (hx : st.ev x = .s (.iface u z)) (h : K (.s (.bool true))) : OpQ P st (.binOp .neq t x (.const .nilIface) t') K := OpQ.mk <| by
  have hy : st.ev (.const .nilIface) = .s .nilIface := rfl
  simp only [opQ, opQ0, hx, hy, binQ, ifcBin]; exact ⟨ht, by intro r hr; subst hr; exact h⟩
theorem q_neN0 {t t' : TypeId} {x : Operand} (ht : tIfc P t = true) (hx : st.ev x = .s .nilIface) (h : K (.s (.bool false))) : OpQ P st (.binOp .neq t x (.const .nilIface) t') K := OpQ.mk <| by
  have hy : st.ev (.const .nilIface) = .s .nilIface := rfl
  simp only [opQ, opQ0, hx, hy, binQ, ifcBin, isLitN]; exact ⟨trivial, ht, by intro r hr; subst hr; exact h⟩
theorem q_neg {t : TypeId} {x : Operand} {k : IntKind} {n : Int} (hx : st.ev x = .s (.int k n)) (h : Let (k.wrap (0 - n)) fun r => K (.s (.int k r))) : OpQ P st (.unOp .neg t x) K := OpQ.mk <| by
  simp only [opQ, opQ0, hx, unQ]; exact h
theorem q_not {t : TypeId} {x : Operand} {b c : Bool} (hx : st.ev x = .s (.bool b)) (hc : (!b) = c) (h : K (.s (.bool c))) : OpQ P st (.unOp .not t x) K := OpQ.mk <| by
  subst hc
  simp only [opQ, opQ0, hx, unQ]; exact h
theorem q_conv {s t : TypeId} {x : Operand} {k k1 k2 : IntKind} {n : Int} (hs : tKind P s = some k1) (ht : tKind P t = some k) (hx : st.ev x = .s (.int k2 n)) (h : Let (k.wrap n) fun r => K (.s (.int k r))) : OpQ P st (.convert s t x) K := OpQ.mk <| by
  simp only [opQ, opQ0, convQ, hx, hs, ht]; exact h
theorem q_txtO {s t : TypeId} {x : Operand} {k n ty sz : Nat} {es : List AV} {xs : List Int} (hs : tIsBytes P s = true) (ht : tIsStr P t = true) (hx : st.ev x = .own k n) (hH : st.H k = some (.row ty sz es)) (hu : u8s (es.take n) = some xs) (h : Let (strOfNums xs) fun r => K (.s (.string r))) : OpQ P st (.convert s t x) K := OpQ.mk <| by
  simp only [opQ, opQ0, convQ, txtQ, hx, hH, hu]; exact ⟨hs, ht, h⟩
theorem q_txt {s t : TypeId} {x : Operand} {sz : Nat} {es : List AV} {xs : List Int} (hs : tIsBytes P s = true) (ht : tIsStr P t = true) (hx : st.ev x = .lst sz es) (hu : u8s es = some xs) (h : Let (strOfNums xs) fun r => K (.s (.string r))) : OpQ P st (.convert s t x) K := OpQ.mk <| by
  simp only [opQ, opQ0, convQ, txtQ, hx, hu]; exact ⟨hs, ht, h⟩
theorem q_clo {f : Nat} {first caps : Array Operand} {hs : List Nat} (h0 : first.size = 0) (hc : capHs (caps.toList.map st.ev) = some hs) (h : K (.clo f hs)) : OpQ P st (.makeFunc (.func f) first caps) K := OpQ.mk <| by
  simp only [opQ, opQ0, mkFnQ, hc]; exact ⟨h0, h⟩
theorem q_fn {f : Nat} {first caps : Array Operand} {vs : List AV} (h0 : first.size = 0) (hn : capHs (caps.toList.map st.ev) = none) (hc : caps.toList.map st.ev = vs) (hr : vs.all isRO = true) (h : K (.fn f vs)) : OpQ P st (.makeFunc (.func f) first caps) K := OpQ.mk <| by
  subst hc
  simp only [opQ, opQ0, mkFnQ, hn]; exact ⟨h0, hr, h⟩
theorem q_fieldAddr {s f o : Nat} {x : Operand} {cs ds : List AV} (hf : fOff P s f = some o) (hx : st.ev x = .rp cs) (hd : cs.drop o = ds) (h : K (.rp ds)) : OpQ P st (.fieldAddr s x f) K := OpQ.mk <| by
  subst hd
  simp only [opQ, opQ0, hx, hf]; exact h
theorem q_fieldAddrP {s f o k o' o2 : Nat} {x : Operand} (hf : fOff P s f = some o) (hx : st.ev x = .ptr k o') (hd : o' + o = o2) (h : K (.ptr k o2)) : OpQ P st (.fieldAddr s x f) K := OpQ.mk <| by
  subst hd
  simp only [opQ, opQ0, hx, hf]; exact h
theorem q_fieldAddrE {s f o k i o' o2 : Nat} {x : Operand} (hf : fOff P s f = some o) (hx : st.ev x = .eptr k i o') (hd : o' + o = o2) (h : K (.eptr k i o2)) : OpQ P st (.fieldAddr s x f) K := OpQ.mk <| by
  subst hd
  simp only [opQ, opQ0, hx, hf]; exact h
theorem q_field {s f o : Nat} {x : Operand} {cs ds : List AV} {c : AV} (hf : fPart P s f = some (o, none)) (hx : st.ev x = .agg cs) (hd : cs.drop o = c :: ds) (h : K c) : OpQ P st (.field s x f) K := OpQ.mk <| by
  simp only [opQ, opQ0, hx, hf, partQ, hd]; exact h
theorem q_fieldA {s f o n : Nat} {x : Operand} {cs ds : List AV} (hf : fPart P s f = some (o, some n)) (hx : st.ev x = .agg cs) (hn : decide (o + n ≤ cs.length) = true) (hd : (cs.drop o).take n = ds) (h : K (.agg ds)) : OpQ P st (.field s x f) K := OpQ.mk <| by
  subst hd
  simp only [opQ, opQ0, hx, hf, partQ]; exact ⟨by simpa using hn, h⟩
theorem q_idx {t e sz : Nat} {x i : Operand} {es ds : List AV} {k : IntKind} {n : Int} {v : AV} (ht : tElem P t = some (e, sz)) (hx : st.ev x = .lst sz es) (hi : st.ev i = .s (.int k n)) (h0 : 0 ≤ n) (hv : es[n.toNat]? = some v) (hd : flat v = ds) (h : K (.rp ds)) : OpQ P st (.indexAddr t x i) K := OpQ.mk <| by
  subst hd
  simp only [opQ, opQ0, hx, hi, idxQ, ht]; exact ⟨trivial, h0, v, hv, h⟩
theorem q_idxO {t e sz hh m ty j : Nat} {x i : Operand} {es : List AV} {k : IntKind} {n : Int} (ht : tElem P t = some (e, sz)) (hx : st.ev x = .own hh m) (hH : st.H hh = some (.row ty sz es)) (hi : st.ev i = .s (.int k n)) (h0 : 0 ≤ n) (hn : n < m) (hj : n.toNat = j) (h : K (.eptr hh j 0)) : OpQ P st (.indexAddr t x i) K := OpQ.mk <| by
  subst hj
  simp only [opQ, opQ0, hx, hi, idxQ, ht, hH]; exact ⟨trivial, h0, hn, h⟩
theorem q_idxA {t len sz hh o o2 : Nat} {x i : Operand} {k : IntKind} {n : Int} (hn : tElem P t = none) (ht : tArr P t = some (len, sz)) (hx : st.ev x = .ptr hh o) (hi : st.ev i = .s (.int k n)) (h0 : 0 ≤ n) (hl : n < len) (hd : o + n.toNat * sz = o2) (h : K (.ptr hh o2)) : OpQ P st (.indexAddr t x i) K := OpQ.mk <| by
  subst hd
  simp only [opQ, opQ0, hx, hi, idxQ, ht, hn]; exact ⟨h0, hl, h⟩
theorem q_idxR {t len sz : Nat} {x i : Operand} {cs ds : List AV} {k : IntKind} {n : Int} (hn : tElem P t = none) (ht : tArr P t = some (len, sz)) (hx : st.ev x = .rp cs) (hi : st.ev i = .s (.int k n)) (h0 : 0 ≤ n) (hl : n < len) (hd : cs.drop (n.toNat * sz) = ds) (h : K (.rp ds)) : OpQ P st (.indexAddr t x i) K := OpQ.mk <| by
  subst hd
  simp only [opQ, opQ0, hx, hi, idxQ, ht, hn]; exact ⟨h0, hl, h⟩
theorem q_indexS {t : Nat} {x i : Operand} {s : ByteArray} {k : IntKind} {n : Int} {b : UInt8} (ht : tIsStr P t = true) (hx : st.ev x = .s (.string s)) (hi : st.ev i = .s (.int k n)) (h0 : 0 ≤ n) (hb : s[n.toNat]? = some b) (h : Let (b.toNat : Int) fun r => K (.s (.int .u8 r))) : OpQ P st (.index t x i) K := OpQ.mk <| by
  simp only [opQ, opQ0, hx, hi]; exact ⟨ht, h0, b, hb, h⟩
theorem q_indexR {t len sz : Nat} {gz : Option Nat} {x i : Operand} {cs : List AV} {k : IntKind} {n : Int} (ht : tArrP P t = some (len, sz, gz)) (hx : st.ev x = .agg cs) (hi : st.ev i = .s (.int k n)) (h0 : 0 ≤ n) (hn : n < (len : Int)) (h : partQ cs (n.toNat * sz) gz K) : OpQ P st (.index t x i) K := OpQ.mk <| by
  simp only [opQ, opQ0, hx, hi]; exact ⟨len, sz, gz, ht, h0, hn, h⟩
theorem q_indexV {t len : Nat} {x i : Operand} {cs : List AV} {k : IntKind} {n : Int} {v : AV} (ht : tArrP P t = some (len, 1, none)) (hx : st.ev x = .agg cs) (hi : st.ev i = .s (.int k n)) (h0 : 0 ≤ n) (hv : cs[n.toNat]? = some v) (hn : n < (len : Int)) (h : headQ [v] K) : OpQ P st (.index t x i) K := by
  refine q_indexR ht hx hi h0 hn ?_
  have hl := (List.getElem?_eq_some_iff.1 hv).1
  have e : cs.drop (n.toNat * 1) = v :: cs.drop (n.toNat + 1) := by
    rw [Nat.mul_one, List.drop_eq_getElem_cons hl, (List.getElem?_eq_some_iff.1 hv).2]
  show headQ (cs.drop (n.toNat * 1)) K
  rw [e]; exact h
theorem q_extract {x : Operand} {i : Nat} {cs : List AV} {v : AV} (hx : st.ev x = .tup cs) (hv : cs[i]? = some v) (h : K v) : OpQ P st (.extract x i) K := OpQ.mk <| by
  simp only [opQ, opQ0, hx]; exact ⟨v, hv, h⟩
theorem q_slice {t e sz : Nat} {x : Operand} {lo hi : Option Operand} {es : List AV} {l h' : Int} (ht : tElem P t = some (e, sz)) (hx : st.ev x = .lst sz es) (hlo : bndA 0 (lo.map st.ev) = some l) (hhi : bndA es.length (hi.map st.ev) = some h') (h0 : 0 ≤ l) (h1 : l ≤ h') (h2 : h' ≤ es.length) (h : Let ((es.take h'.toNat).drop l.toNat) fun r => K (.lst sz r)) : OpQ P st (.slice t x lo hi none) K := OpQ.mk <| by
  simp only [opQ, opQ0, hx, sliceQ, ht, hlo, hhi]; exact ⟨trivial, rfl, h0, h1, h2, h⟩
theorem q_sliceO {t e sz hh n ty j m : Nat} {x : Operand} {lo : Operand} {hi : Option Operand} {es : List AV} {l h' : Int} (ht : tElem P t = some (e, sz)) (hx : st.ev x = .own hh n) (hH : st.H hh = some (.row ty sz es)) (hlo : bndA 0 (some (st.ev lo)) = some l) (hhi : bndA n (hi.map st.ev) = some h') (h0 : 0 ≤ l) (h1 : l ≤ h') (h2 : h' ≤ n) (hj : l.toNat = j) (hm : h'.toNat - l.toNat = m) (h : K (.osl hh j m)) : OpQ P st (.slice t x (some lo) hi none) K := OpQ.mk <| by
  subst hj hm
  simp only [opQ, opQ0, hx, sliceQ, ht, hH, Option.map_some, hlo, hhi]; exact ⟨trivial, rfl, h0, h1, h2, h⟩
theorem q_sliceP {t e sz hh n ty m : Nat} {x : Operand} {hi : Operand} {es : List AV} {h' : Int} (ht : tElem P t = some (e, sz)) (hx : st.ev x = .own hh n) (hH : st.H hh = some (.row ty sz es)) (hhi : bndA n (some (st.ev hi)) = some h') (h1 : 0 ≤ h') (h2 : h' ≤ n) (hm : h'.toNat = m) (h : K (.own hh m)) : OpQ P st (.slice t x none (some hi) none) K := OpQ.mk <| by
  subst hm
  have hlo : bndA 0 (none : Option AV) = some 0 := rfl
  simp only [opQ, opQ0, hx, sliceQ, ht, hH, Option.map_none, Option.map_some, hlo, hhi]; exact ⟨trivial, trivial, Int.le_refl _, h1, h2, h⟩
theorem q_sliceL {t e sz hh i n ty j m : Nat} {x : Operand} {lo hi : Option Operand} {es : List AV} {l h' : Int} (ht : tElem P t = some (e, sz)) (hx : st.ev x = .osl hh i n) (hH : st.H hh = some (.row ty sz es)) (hlo : bndA 0 (lo.map st.ev) = some l) (hhi : bndA n (hi.map st.ev) = some h') (h0 : 0 ≤ l) (h1 : l ≤ h') (h2 : h' ≤ n) (hj : i + l.toNat = j) (hm : h'.toNat - l.toNat = m) (h : K (.osl hh j m)) : OpQ P st (.slice t x lo hi none) K := OpQ.mk <| by
  subst hj hm
  simp only [opQ, opQ0, hx, sliceQ, ht, hH, hlo, hhi]; exact ⟨trivial, rfl, h0, h1, h2, h⟩
theorem q_idxL {t e sz hh i m ty j : Nat} {x y : Operand} {es : List AV} {k : IntKind} {n : Int} (ht : tElem P t = some (e, sz)) (hx : st.ev x = .osl hh i m) (hH : st.H hh = some (.row ty sz es)) (hi : st.ev y = .s (.int k n)) (h0 : 0 ≤ n) (hn : n < m) (hj : i + n.toNat = j) (h : K (.eptr hh j 0)) : OpQ P st (.indexAddr t x y) K := OpQ.mk <| by
  subst hj
  simp only [opQ, opQ0, hx, hi, idxQ, ht, hH]; exact ⟨trivial, h0, hn, h⟩
theorem k_nil {K : St → Prop} {t yt ty : TypeId} {x : Operand} {dst : Option Tmp} {m : Nat} {pos : String} {aft : Array Edge} {gd : Option (Nat × Bool)} (ht : (tElem P t).isSome = true) (hx : slLen (st.ev x) = some m) (h : ∀ b : Bool, (b = true → m = 0) → K (st.put dst (.s (.bool b)))) :
    OpK P st { dst := dst, op := .binOp .eql t x (.const (.slice none 0 0)) yt, type := ty, pos := pos, after := aft, guard := gd } K := OpK.mk (.inr ⟨rfl, ht, m, hx, h⟩)
theorem k_clear {K : St → Prop} {t ty e sz k i n ty2 : Nat} {x : Operand} {dst : Option Tmp} {es z : List AV} {pos : String} {aft : Array Edge} {gd : Option (Nat × Bool)} (ht : tElem P t = some (e, sz)) (hx : st.ev x = .osl k i n) (hH : st.H k = some (.row ty2 sz es)) (hz : zeroA P e = some z) (hl : z.length = sz)
    (h : K (({ st with H := upd st.H k (some (.row ty2 sz (es.take i ++ List.replicate n (zelem z) ++ es.drop (i + n)))) } : St).put dst (.tup []))) :
    OpK P st { dst := dst, op := .call { callee := .builtin .clear, args := #[x], argTypes := #[t] }, type := ty, pos := pos, after := aft, guard := gd } K := OpK.mk <| by
  have e : opK P st { dst := dst, op := .call { callee := .builtin .clear, args := #[x], argTypes := #[t] }, type := ty, pos := pos, after := aft, guard := gd } K = clrQ P st t (st.ev x) (fun st' => K (st'.put dst (.tup []))) := by cases dst <;> rfl
  rw [e]
  unfold clrQ
  simp only [ht, hx, hH, hz]; exact ⟨trivial, hl, h⟩
theorem good_join {N : Nat} {Q : Exit → St → Prop} {x y : Code} (st' : St) (hC : Good P N y Q st') (h : ∀ K : St → Prop, (∀ s, Sub N s st' → K s) → Good P N x (thenQ K Q) st) : Good P N (.seq x y) Q st := good_seq fun K hK => h K fun s hs => hK s (good_weak hs hC)
theorem q_sliceS {t : Nat} {x : Operand} {lo hi : Option Operand} {s : ByteArray} {l h' : Int} (ht : tIsStr P t = true) (hx : st.ev x = .s (.string s)) (hlo : bndA 0 (lo.map st.ev) = some l) (hhi : bndA s.size (hi.map st.ev) = some h') (h0 : 0 ≤ l) (h1 : l ≤ h') (h2 : h' ≤ s.size) (h : Let (s.extract l.toNat h'.toNat) fun r => K (.s (.string r))) : OpQ P st (.slice t x lo hi none) K := OpQ.mk <| by
  simp only [opQ, opQ0, hx, sliceQ, hlo, hhi]; exact ⟨ht, rfl, h0, h1, h2, h⟩
def lenA : AV → Option Int
  | .lst _ es => some es.length
  | .own _ n => some n
  | .osl _ _ n => some n
  | .nst _ n => some n
  | .nil => some 0
  | _ => none
theorem q_len {x : Operand} {t : TypeId} {n : Int} (ht : (tElem P t).isSome = true) (hx : lenA (st.ev x) = some n) (h : Let n fun r => K (.s (.int .i64 r))) : OpQ P st (.call { callee := .builtin .len, args := #[x], argTypes := #[t] }) K := OpQ.mk <| by
  show lenQ P t (st.ev x) K
  unfold lenQ
  unfold lenA at hx
  split at hx <;> first
    | (rename_i e; cases hx; rw [e]; exact ⟨ht, h⟩)
    | (rename_i e; cases hx; rw [e]; exact ⟨ht, h.out⟩)
    | cases hx
theorem q_lenS {x : Operand} {t : TypeId} {s : ByteArray} (ht : tIsStr P t = true) (hx : st.ev x = .s (.string s)) (h : Let (s.size : Int) fun r => K (.s (.int .i64 r))) : OpQ P st (.call { callee := .builtin .len, args := #[x], argTypes := #[t] }) K := OpQ.mk <| by
  show lenQ P t (st.ev x) K
  simp only [hx, lenQ]; exact ⟨ht, h⟩
theorem q_max {x y : Operand} {ts : Array TypeId} {k k' : IntKind} {a b : Int} (hx : st.ev x = .s (.int k a)) (hy : st.ev y = .s (.int k' b)) (h : Let (mxI a b) fun r => K (.s (.int k r))) : OpQ P st (.call { callee := .builtin .max, args := #[x, y], argTypes := ts }) K := OpQ.mk <| by
  show mm2Q mxI (st.ev x) (st.ev y) K
  rw [hx, hy]; exact h
theorem q_min {x y : Operand} {ts : Array TypeId} {k k' : IntKind} {a b : Int} (hx : st.ev x = .s (.int k a)) (hy : st.ev y = .s (.int k' b)) (h : Let (mnI a b) fun r => K (.s (.int k r))) : OpQ P st (.call { callee := .builtin .min, args := #[x, y], argTypes := ts }) K := OpQ.mk <| by
  show mm2Q mnI (st.ev x) (st.ev y) K
  rw [hx, hy]; exact h
theorem q_call {f : Operand} {args : Array Operand} {ts : Array TypeId} {g : Nat} {caps rs as : List AV} {r : AV} (hf : roOf st.H 4 (st.ev f) = some (.fn g caps)) (ha : optAll (roOf st.H 4) (args.toList.map st.ev) = some rs) (hap : rs ++ caps = as) (hd : Den P g as r)
    (hr : (((args.toList.map st.ev).all isRO && isRO (st.ev f)) || noMems r) = true) (h : K r) : OpQ P st (.call { callee := .value f, args := args, argTypes := ts }) K := OpQ.mk <| by
  subst hap
  simp only [opQ, callQ, hf, ha]
  refine ⟨r, hd, ?_, h⟩
  rcases Bool.or_eq_true_iff.1 hr with h | h
  · exact .inl h
  · exact .inr h
theorem q_callB {f : Operand} {args : Array Operand} {ts : Array TypeId} {g : Nat} {caps rs as : List AV} {b0 : Bool} (hf : roOf st.H 4 (st.ev f) = some (.fn g caps)) (ha : optAll (roOf st.H 4) (args.toList.map st.ev) = some rs) (hap : rs ++ caps = as) (hd : Den P g as (.s (.bool b0)))
    (h : ∀ b, b = b0 → K (.s (.bool b))) : OpQ P st (.call { callee := .value f, args := args, argTypes := ts }) K :=
  q_call hf ha hap hd (by simp [noMems, noMem]) (h _ rfl)
theorem q_callI {f : Operand} {args : Array Operand} {ts : Array TypeId} {g : Nat} {caps rs as : List AV} {k : IntKind} {n0 : Int} (hf : roOf st.H 4 (st.ev f) = some (.fn g caps)) (ha : optAll (roOf st.H 4) (args.toList.map st.ev) = some rs) (hap : rs ++ caps = as) (hd : Den P g as (.s (.int k n0)))
    (h : ∀ n, n = n0 → K (.s (.int k n))) : OpQ P st (.call { callee := .value f, args := args, argTypes := ts }) K :=
  q_call hf ha hap hd (by simp [noMems, noMem]) (h _ rfl)
/-! ### The end -/
theorem ret_tmp {rs : List ResultVar} {t : Nat} {v v' r : AV} (hrs : rs = [.tmp t]) (hv : st.env t = v) (hr : roOf st.H 4 v = some v') (h : v' = r) : resQ P st rs (fun u => u = r) := by
  subst hrs hv
  simp only [resQ, resOne, hr]; exact h
theorem ret_cell {rs : List ResultVar} {t ty n : Nat} {cs ys : List AV} {r : AV} (hrs : rs = [.cell t ty]) (ht : tAgg P ty = some (some n)) (hx : cellsOf st.H (st.env t) = some cs) (hn : decide (n ≤ cs.length) = true) (hy : optAll (roOf st.H 4) (cs.take n) = some ys) (h : AV.agg ys = r) : resQ P st rs (fun u => u = r) := by
  subst hrs
  simp only [resQ, resOne]
  refine ptrQ_of hx ?_
  simp only [ht, hy]; exact ⟨by simpa using hn, h⟩
theorem ret_many {rs : List ResultVar} {r : AV} (h2 : (rs.length == 1) = false) (h : resAll P st rs fun vs => AV.tup vs = r) : resQ P st rs (fun u => u = r) := by
  unfold resQ
  split
  · cases h2
  · exact h
theorem res_nil {K : List AV → Prop} (h : K []) : resAll P st [] K := h
theorem res_tmp {rs : List ResultVar} {t : Nat} {v v' : AV} {K : List AV → Prop} (hv : st.env t = v) (hr : roOf st.H 4 v = some v') (h : resAll P st rs fun vs => K (v' :: vs)) : resAll P st (.tmp t :: rs) K := by
  subst hv
  simp only [resAll, resOne, hr]; exact h
theorem res_cell {rs : List ResultVar} {t ty n : Nat} {cs ys : List AV} {K : List AV → Prop} (ht : tAgg P ty = some (some n)) (hx : cellsOf st.H (st.env t) = some cs) (hn : decide (n ≤ cs.length) = true) (hy : optAll (roOf st.H 4) (cs.take n) = some ys) (h : resAll P st rs fun vs => K (AV.agg ys :: vs)) : resAll P st (.cell t ty :: rs) K := by
  simp only [resAll, resOne]
  refine ptrQ_of hx ?_
  simp only [ht, hy]; exact ⟨by simpa using hn, h⟩
theorem res_cell1 {rs : List ResultVar} {t ty : Nat} {c : AV} {cs : List AV} {y : AV} {K : List AV → Prop} (ht : tAgg P ty = some none) (hx : cellsOf st.H (st.env t) = some (c :: cs)) (hy : roOf st.H 4 c = some y) (h : resAll P st rs fun vs => K (y :: vs)) : resAll P st (.cell t ty :: rs) K := by
  simp only [resAll, resOne]
  refine ptrQ_of hx ?_
  simp only [ht, headQ, hy]; exact h
/-! ### Operations that make or write memory -/
def tSz (P : Program) (t : TypeId) : Option Nat := (P.info? t).map (·.size)
def tBytes (P : Program) (t : TypeId) : Option Nat := (P.info? t).map (·.bytes)
theorem tSz_some {t n : Nat} (h : tSz P t = some n) : ∃ i, P.info? t = some i ∧ i.size = n := by
  unfold tSz at h
  cases hi : P.info? t with
  | none => rw [hi] at h; cases h
  | some i => rw [hi] at h; cases h; exact ⟨i, rfl, rfl⟩
theorem tBytes_some {t n : Nat} (h : tBytes P t = some n) : ∃ i, P.info? t = some i ∧ i.bytes = n := by
  unfold tBytes at h
  cases hi : P.info? t with
  | none => rw [hi] at h; cases h
  | some i => rw [hi] at h; cases h; exact ⟨i, rfl, rfl⟩
theorem k_box {K : St → Prop} {x : Operand} {elem t : TypeId} {d : Nat} {v : AV} {cs : List AV} {pos : String} {aft : Array Edge} {gd : Option (Nat × Bool)} (hx : st.ev x = v) (hb : boxOk v = true) (hc : flat v = cs) (hH : st.H d = none)
    (h : K { env := upd st.env d (.ptr d 0), H := upd st.H d (some (.box elem cs)) }) : OpK P st { dst := some d, op := .box elem x, type := t, pos := pos, after := aft, guard := gd } K := OpK.mk <| by
  subst hc hx
  exact ⟨hH, hb, h⟩
theorem k_alloc {K : St → Prop} {elem t : TypeId} {d : Nat} {cs : List AV} {pos : String} {aft : Array Edge} {gd : Option (Nat × Bool)} (hz : zeroA P elem = some cs) (hH : st.H d = none)
    (h : K { env := upd st.env d (.ptr d 0), H := upd st.H d (some (.box elem cs)) }) : OpK P st { dst := some d, op := .alloc elem, type := t, pos := pos, after := aft, guard := gd } K := OpK.mk <| by
  refine ⟨hH, ?_⟩
  simp only [hz]; exact h
theorem k_build {K : St → Prop} {t t' : TypeId} {parts : Array (Nat × Operand)} {dst : Option Tmp} {z cs : List AV} {pl : List (Nat × Nat)} {pos : String} {aft : Array Edge} {gd : Option (Nat × Bool)} (hz : zeroA P t = some z) (hp : placesA P t = some pl)
    (hc : fillA pl z (parts.toList.map fun p => (p.1, st.ev p.2)) = some cs) (h : K (st.put dst (.agg cs))) : OpK P st { dst := dst, op := .build t parts, type := t', pos := pos, after := aft, guard := gd } K := OpK.mk <| by
  simp only [opK, buildQ, hz, hp, hc]; exact h
theorem k_lit {K : St → Prop} {t t' : TypeId} {len : Nat} {parts : Array (Nat × Operand)} {d e sz : Nat} {z vs : List AV} {pos : String} {aft : Array Edge} {gd : Option (Nat × Bool)} (ht : tElem P t = some (e, sz)) (hz : zeroA P e = some z) (hzl : z.length = sz)
    (hi : parts.toList.map (·.1) = List.range len) (hl : len * sz ≤ 16777216) (hm : len ≤ maxLen) (hv : parts.toList.map (fun p => st.ev p.2) = vs) (hall : vs.all (fun v => decide ((flat v).length = sz) && boxOk v && isRO v) = true) (hH : st.H d = none)
    (h : K { env := upd st.env d (.own d len), H := upd st.H d (some (.row e sz vs)) }) : OpK P st { dst := some d, op := .buildSlice t len parts, type := t', pos := pos, after := aft, guard := gd } K := OpK.mk <| by
  subst hv
  show litQ P st d t len parts.toList K
  unfold litQ
  simp only [ht, hz]; exact ⟨hzl, hi, hl, hm, hall, hH, h⟩
theorem k_make {K : St → Prop} {t t' : TypeId} {l c : Operand} {d e sz : Nat} {z : List AV} {by_ : Nat} {k k' : IntKind} {n : Int} {j : Nat} {pos : String} {aft : Array Edge} {gd : Option (Nat × Bool)} (ht : tElem P t = some (e, sz)) (hl : st.ev l = .s (.int k n)) (hc : st.ev c = .s (.int k' n))
    (hz : zeroA P e = some z) (hi : tBytes P e = some by_) (hzl : z.length = sz) (h0 : 0 ≤ n) (hb : (by_ : Int) * n ≤ 281474976710656) (h63 : n ≤ 9223372036854775807) (hH : st.H d = none) (hj : n.toNat = j)
    (h : K { env := upd st.env d (.own d j), H := upd st.H d (some (.row e sz (List.replicate j (zelem z)))) }) : OpK P st { dst := some d, op := .makeSlice t l c, type := t', pos := pos, after := aft, guard := gd } K := OpK.mk <| by
  subst hj
  obtain ⟨i, hi2, rfl⟩ := tBytes_some hi
  show mkQ P st d t (st.ev l) (st.ev c) K
  rw [hl, hc]
  unfold mkQ
  simp only [ht, hz, hi2]; exact ⟨Int.le_refl _, hzl, h0, hb, h63, hH, h⟩
theorem k_make2 {K : St → Prop} {t t' : TypeId} {l c : Operand} {d e sz : Nat} {z : List AV} {by_ : Nat} {k k' : IntKind} {n m : Int} {j : Nat} {pos : String} {aft : Array Edge} {gd : Option (Nat × Bool)} (ht : tElem P t = some (e, sz)) (hl : st.ev l = .s (.int k n)) (hc : st.ev c = .s (.int k' m))
    (hz : zeroA P e = some z) (hi : tBytes P e = some by_) (hzl : z.length = sz) (h0 : 0 ≤ n) (hnm : n ≤ m) (hb : (by_ : Int) * m ≤ 281474976710656) (h63 : m ≤ 9223372036854775807) (hH : st.H d = none) (hj : n.toNat = j)
    (h : K { env := upd st.env d (.own d j), H := upd st.H d (some (.row e sz (List.replicate j (zelem z)))) }) : OpK P st { dst := some d, op := .makeSlice t l c, type := t', pos := pos, after := aft, guard := gd } K := OpK.mk <| by
  subst hj
  obtain ⟨i, hi2, rfl⟩ := tBytes_some hi
  show mkQ P st d t (st.ev l) (st.ev c) K
  rw [hl, hc]
  unfold mkQ
  simp only [ht, hz, hi2]; exact ⟨hnm, hzl, h0, hb, h63, hH, h⟩
theorem k_store {K : St → Prop} {t t' : TypeId} {x y : Operand} {dst : Option Tmp} {zn : Nat} {v : AV} {k o ty : Nat} {cs ds : List AV} {pos : String} {aft : Array Edge} {gd : Option (Nat × Bool)} (hi : tSz P t = some zn) (hx : st.ev x = .ptr k o) (hy : st.ev y = v) (hs : zn = (flat v).length) (hb : boxOk v = true) (hH : st.H k = some (.box ty cs))
    (hl : o + (flat v).length ≤ cs.length) (hd : splice cs o (flat v) = ds) (h : K (St.put { st with H := upd st.H k (some (.box ty ds)) } dst .junk)) : OpK P st { dst := dst, op := .store t x y, type := t', pos := pos, after := aft, guard := gd } K := OpK.mk <| by
  subst hd hy
  obtain ⟨i, hi2, rfl⟩ := tSz_some hi
  simp only [opK, storeQ, hx, hi2, hH]; exact ⟨hs, hb, hl, h⟩
theorem k_storeE {K : St → Prop} {t t' : TypeId} {x y : Operand} {dst : Option Tmp} {zn : Nat} {v e : AV} {k j o ty sz : Nat} {es ds : List AV} {pos : String} {aft : Array Edge} {gd : Option (Nat × Bool)} (hi : tSz P t = some zn) (hx : st.ev x = .eptr k j o) (hy : st.ev y = v) (hs : zn = (flat v).length) (hb : boxOk v = true) (hr : isRO v = true) (hp : 0 < (flat v).length)
    (hH : st.H k = some (.row ty sz es)) (he : es[j]? = some e) (hl : o + (flat v).length ≤ (flat e).length) (hd : es.set j (setE e o v) = ds) (h : K (St.put { st with H := upd st.H k (some (.row ty sz ds)) } dst .junk)) : OpK P st { dst := dst, op := .store t x y, type := t', pos := pos, after := aft, guard := gd } K := OpK.mk <| by
  subst hd hy
  obtain ⟨i, hi2, rfl⟩ := tSz_some hi
  simp only [opK, storeQ, hx, hi2, hH]; exact ⟨hs, hb, e, he, hr, hp, hl, h⟩
theorem k_app0 {K : St → Prop} {t t' : TypeId} {s x : Operand} {d e sz by_ : Nat} {news : List AV} {pos : String} {aft : Array Edge} {gd : Option (Nat × Bool)} (ht : tApp P t = some (e, sz, by_)) (hs : st.ev s = .nil) (hx : elemsA st.H sz (st.ev x) = some news) (hH : st.H d = none) (h63 : news.length ≤ maxLen) (hb : news.length * by_ ≤ 140737488355328)
    (h : K { env := upd st.env d (.own d news.length), H := upd st.H d (some (.row e sz news)) }) : OpK P st { dst := some d, op := .call { callee := .builtin .append, args := #[s, x], argTypes := #[t, t] }, type := t', pos := pos, after := aft, guard := gd } K := OpK.mk <| by
  refine ⟨rfl, ?_⟩
  unfold appQ
  simp only [ht, hx, hs]; exact ⟨hH, h63, hb, h⟩
theorem k_app {K : St → Prop} {t t' : TypeId} {s x : Operand} {d e sz by_ k n : Nat} {es news : List AV} {pos : String} {aft : Array Edge} {gd : Option (Nat × Bool)} (ht : tApp P t = some (e, sz, by_)) (hs : st.ev s = .own k n) (hK : st.H k = some (.row e sz es)) (hn : n = es.length) (hx : elemsA st.H sz (st.ev x) = some news) (hH : st.H d = none ∨ k = d) (h63 : es.length + news.length ≤ maxLen) (hb : (es.length + news.length) * by_ ≤ 140737488355328)
    (h : K (((st.kill k).move (some k) d (.row e sz (es ++ news))).put (some d) (.own d (es.length + news.length)))) : OpK P st { dst := some d, op := .call { callee := .builtin .append, args := #[s, x], argTypes := #[t, t] }, type := t', pos := pos, after := aft, guard := gd } K := OpK.mk <| by
  refine ⟨rfl, ?_⟩
  unfold appQ
  simp only [ht, hx, hs, hK]; exact ⟨trivial, trivial, hn, hH, h63, hb, h⟩
theorem k_appL {K : St → Prop} {t t' : TypeId} {s x : Operand} {d e sz by_ k i n : Nat} {es news : List AV} {pos : String} {aft : Array Edge} {gd : Option (Nat × Bool)} (ht : tApp P t = some (e, sz, by_)) (hs : st.ev s = .osl k i n) (hK : st.H k = some (.row e sz es)) (hn : i + n = es.length) (hx : elemsA st.H sz (st.ev x) = some news) (hH : st.H d = none ∨ k = d) (h63 : es.length + news.length ≤ maxLen) (hb : (es.length + news.length) * by_ ≤ 140737488355328)
    (h : ∀ W j, (W = es ++ news ∧ j = i ∨ W = es.drop i ++ news ∧ j = 0) → K (((st.kill k).move (some k) d (.row e sz W)).put (some d) (.osl d j (n + news.length)))) : OpK P st { dst := some d, op := .call { callee := .builtin .append, args := #[s, x], argTypes := #[t, t] }, type := t', pos := pos, after := aft, guard := gd } K := OpK.mk <| by
  refine ⟨rfl, ?_⟩
  unfold appQ
  simp only [ht, hx, hs, hK]; exact ⟨trivial, trivial, hn, hH, h63, hb, h⟩
/-! ### Calls that write -/
def allP {α : Type} (p : α → Prop) : List α → Prop
  | [] => True
  | x :: xs => p x ∧ allP p xs
theorem allP_mem {α : Type} {p : α → Prop} : ∀ {l : List α}, allP p l → ∀ x ∈ l, p x
  | x :: l, h, y, hy => by
    rcases List.mem_cons.1 hy with e | e
    · rw [e]; exact h.1
    · exact allP_mem h.2 y e
def nm : List (Nat × Nat) → Nat → Nat
  | [], k => k
  | (i, j) :: l, k => if k = i then j else nm l k
def nodupB : List Nat → Bool
  | [] => true
  | x :: xs => !(xs.contains x) && nodupB xs
theorem nodupB_ok : ∀ {l : List Nat}, nodupB l = true → l.Nodup
  | [], _ => List.nodup_nil
  | x :: xs, h => by
    simp only [nodupB, Bool.and_eq_true, Bool.not_eq_true', List.contains_eq_mem, decide_eq_false_iff_not] at h
    exact List.nodup_cons.2 ⟨h.1, nodupB_ok h.2⟩
def shapeL (H : Nat → Option OB) (σ : Nat → Nat) : List (Nat × OB) → List (Nat × OB) → Prop
  | [], l => allP (fun p => H (σ p.1) = none ∧ σ p.1 < 1000000) l
  | (k, o) :: l, (k', o') :: l' => k' = k ∧ sameShape o o' ∧ shapeL H σ l l'
  | _ :: _, [] => False
theorem shapeL_pre {H : Nat → Option OB} {σ : Nat → Nat} : ∀ {l l' : List (Nat × OB)}, shapeL H σ l l' → ∀ p ∈ l, ∃ q ∈ l', q.1 = p.1 ∧ sameShape p.2 q.2
  | [], _, _, p, hp => by cases hp
  | (k, o) :: l, (k', o') :: l', h, p, hp => by
    obtain ⟨h1, h2, h3⟩ := h
    rcases List.mem_cons.1 hp with e | e
    · subst e; exact ⟨(k', o'), by simp, h1, h2⟩
    · obtain ⟨q, hq, r⟩ := shapeL_pre h3 p e
      exact ⟨q, by simp [hq], r⟩
  | _ :: _, [], h, _, _ => h.elim
theorem shapeL_post {H : Nat → Option OB} {σ : Nat → Nat} : ∀ {l l' : List (Nat × OB)}, shapeL H σ l l' → ∀ p ∈ l', (∃ q ∈ l, q.1 = p.1) ∨ (H (σ p.1) = none ∧ σ p.1 < 1000000)
  | [], _, h, p, hp => .inr (allP_mem h p hp)
  | (k, o) :: l, (k', o') :: l', h, p, hp => by
    obtain ⟨h1, h2, h3⟩ := h
    rcases List.mem_cons.1 hp with e | e
    · subst e; exact .inl ⟨(k, o), by simp, h1.symm⟩
    · rcases shapeL_post h3 p e with ⟨q, hq, r⟩ | r
      · exact .inl ⟨q, by simp [hq], r⟩
      · exact .inr r
  | _ :: _, [], h, _, _ => h.elim
theorem shapeL_nodup {H : Nat → Option OB} {σ : Nat → Nat} : ∀ {l l' : List (Nat × OB)}, shapeL H σ l l' → (l'.map fun p => σ p.1).Nodup → (l.map fun p => σ p.1).Nodup
  | [], _, _, _ => List.nodup_nil
  | (k, o) :: l, (k', o') :: l', h, hn => by
    obtain ⟨h1, h2, h3⟩ := h
    simp only [List.map_cons, List.nodup_cons] at hn ⊢
    refine ⟨fun hm => hn.1 ?_, shapeL_nodup h3 hn.2⟩
    obtain ⟨p, hp, e⟩ := List.mem_map.1 hm
    obtain ⟨q, hq, e2, -⟩ := shapeL_pre h3 p hp
    exact List.mem_map.2 ⟨q, hq, by rw [e2, e, h1]⟩
  | _ :: _, [], h, _ => h.elim
def inPre (pre : List (Nat × OB)) (k : Nat) : Bool := pre.any fun p => p.1 == k
theorem inPre_ok {pre : List (Nat × OB)} {k : Nat} (h : inPre pre k = true) : ∃ q ∈ pre, q.1 = k := by
  obtain ⟨q, hq, e⟩ := List.any_eq_true.1 h
  exact ⟨q, hq, by simpa using e⟩
section
variable {gf : Nat} {caps as : List AV} {pre post : List (Nat × OB)} {r : AV} {f : Operand} {args : Array Operand} {ts : Array TypeId} {dst : Option Tmp} {t' : TypeId} {pos : String} {aft : Array Edge} {gd : Option (Nat × Bool)} {K : St → Prop}
theorem k_callX (σ : List (Nat × Nat)) (hd : DenX P gf pre as post r) (hc : calleeX (st.ev f) = some (gf, caps)) (ha : optAll (passOf st.H (pre.map fun p => nm σ p.1)) (args.toList.map st.ev ++ caps) = some (rens (nm σ) as))
    (hcv : (args.toList.map st.ev ++ caps).all (passes (pre.map fun p => nm σ p.1)) = true)
    (h1 : allP (fun p => st.H (nm σ p.1) = some (renO (nm σ) p.2)) pre) (h2 : shapeL st.H (nm σ) pre post) (h3 : nodupB (post.map fun p => nm σ p.1) = true) (h4 : (refsAs as).all (inPre pre) = true) (h5 : (pre.all fun p => (refsO p.2).all (inPre pre)) = true)
    (h : K (St.put { env := st.env, H := updAll st.H (nm σ) post } dst (ren (nm σ) r))) : OpK P st { dst := dst, op := .call { callee := .value f, args := args, argTypes := ts }, type := t', pos := pos, after := aft, guard := gd } K :=
  OpK.mk <| .inr ⟨gf, caps, as, nm σ, pre, Unit, _, _, _, false, hc, ha, .inr hcv, hd, ⟨allP_mem h1, shapeL_nodup h2 (nodupB_ok h3), fun k hk => inPre_ok (List.all_eq_true.1 h4 k hk), fun p hp k hk => inPre_ok (List.all_eq_true.1 (List.all_eq_true.1 h5 p hp) k hk)⟩, fun _ _ => ⟨shapeL_pre h2, shapeL_post h2, nodupB_ok h3, fun e => by cases e⟩, fun _ _ => h⟩
theorem k_callXc (σ : List (Nat × Nat)) (hd : DenX P gf pre as post r) (hc : calleeX (st.ev f) = some (gf, caps)) (ha : optAll (passOf st.H (pre.map fun p => nm σ p.1)) (args.toList.map st.ev ++ caps) = some (rens (nm σ) as))
    (hcv : pureV r = true ∧ allP (fun p => pureO p.2) post)
    (h1 : allP (fun p => st.H (nm σ p.1) = some (renO (nm σ) p.2)) pre) (h2 : shapeL st.H (nm σ) pre post) (h3 : nodupB (post.map fun p => nm σ p.1) = true) (h4 : (refsAs as).all (inPre pre) = true) (h5 : (pre.all fun p => (refsO p.2).all (inPre pre)) = true)
    (h : K (St.put { env := st.env, H := updAll st.H (nm σ) post } dst (ren (nm σ) r))) : OpK P st { dst := dst, op := .call { callee := .value f, args := args, argTypes := ts }, type := t', pos := pos, after := aft, guard := gd } K :=
  OpK.mk <| .inr ⟨gf, caps, as, nm σ, pre, Unit, _, _, _, true, hc, ha, .inl rfl, hd, ⟨allP_mem h1, shapeL_nodup h2 (nodupB_ok h3), fun k hk => inPre_ok (List.all_eq_true.1 h4 k hk), fun p hp k hk => inPre_ok (List.all_eq_true.1 (List.all_eq_true.1 h5 p hp) k hk)⟩, fun _ _ => ⟨shapeL_pre h2, shapeL_post h2, nodupB_ok h3, fun _ => ⟨hcv.1, allP_mem hcv.2⟩⟩, fun _ _ => h⟩
theorem k_callXI {k : IntKind} {n0 : Int} (σ : List (Nat × Nat)) (hd : DenX P gf pre as post (.s (.int k n0))) (hc : calleeX (st.ev f) = some (gf, caps)) (ha : optAll (passOf st.H (pre.map fun p => nm σ p.1)) (args.toList.map st.ev ++ caps) = some (rens (nm σ) as))
    (hcv : (args.toList.map st.ev ++ caps).all (passes (pre.map fun p => nm σ p.1)) = true)
    (h1 : allP (fun p => st.H (nm σ p.1) = some (renO (nm σ) p.2)) pre) (h2 : shapeL st.H (nm σ) pre post) (h3 : nodupB (post.map fun p => nm σ p.1) = true) (h4 : (refsAs as).all (inPre pre) = true) (h5 : (pre.all fun p => (refsO p.2).all (inPre pre)) = true)
    (h : ∀ n, n = n0 → K (St.put { env := st.env, H := updAll st.H (nm σ) post } dst (.s (.int k n)))) : OpK P st { dst := dst, op := .call { callee := .value f, args := args, argTypes := ts }, type := t', pos := pos, after := aft, guard := gd } K :=
  k_callX σ hd hc ha hcv h1 h2 h3 h4 h5 (h _ rfl)
theorem k_callXB {n0 : Bool} (σ : List (Nat × Nat)) (hd : DenX P gf pre as post (.s (.bool n0))) (hc : calleeX (st.ev f) = some (gf, caps)) (ha : optAll (passOf st.H (pre.map fun p => nm σ p.1)) (args.toList.map st.ev ++ caps) = some (rens (nm σ) as))
    (hcv : (args.toList.map st.ev ++ caps).all (passes (pre.map fun p => nm σ p.1)) = true)
    (h1 : allP (fun p => st.H (nm σ p.1) = some (renO (nm σ) p.2)) pre) (h2 : shapeL st.H (nm σ) pre post) (h3 : nodupB (post.map fun p => nm σ p.1) = true) (h4 : (refsAs as).all (inPre pre) = true) (h5 : (pre.all fun p => (refsO p.2).all (inPre pre)) = true)
    (h : ∀ n, n = n0 → K (St.put { env := st.env, H := updAll st.H (nm σ) post } dst (.s (.bool n)))) : OpK P st { dst := dst, op := .call { callee := .value f, args := args, argTypes := ts }, type := t', pos := pos, after := aft, guard := gd } K :=
  k_callX σ hd hc ha hcv h1 h2 h3 h4 h5 (h _ rfl)
theorem k_callXcI {k : IntKind} {n0 : Int} (σ : List (Nat × Nat)) (hd : DenX P gf pre as post (.s (.int k n0))) (hc : calleeX (st.ev f) = some (gf, caps)) (ha : optAll (passOf st.H (pre.map fun p => nm σ p.1)) (args.toList.map st.ev ++ caps) = some (rens (nm σ) as))
    (hcv : pureV (.s (.int k n0)) = true ∧ allP (fun p => pureO p.2) post)
    (h1 : allP (fun p => st.H (nm σ p.1) = some (renO (nm σ) p.2)) pre) (h2 : shapeL st.H (nm σ) pre post) (h3 : nodupB (post.map fun p => nm σ p.1) = true) (h4 : (refsAs as).all (inPre pre) = true) (h5 : (pre.all fun p => (refsO p.2).all (inPre pre)) = true)
    (h : ∀ n, n = n0 → K (St.put { env := st.env, H := updAll st.H (nm σ) post } dst (.s (.int k n)))) : OpK P st { dst := dst, op := .call { callee := .value f, args := args, argTypes := ts }, type := t', pos := pos, after := aft, guard := gd } K :=
  k_callXc σ hd hc ha hcv h1 h2 h3 h4 h5 (h _ rfl)
theorem k_callXcB {n0 : Bool} (σ : List (Nat × Nat)) (hd : DenX P gf pre as post (.s (.bool n0))) (hc : calleeX (st.ev f) = some (gf, caps)) (ha : optAll (passOf st.H (pre.map fun p => nm σ p.1)) (args.toList.map st.ev ++ caps) = some (rens (nm σ) as))
    (hcv : pureV (.s (.bool n0)) = true ∧ allP (fun p => pureO p.2) post)
    (h1 : allP (fun p => st.H (nm σ p.1) = some (renO (nm σ) p.2)) pre) (h2 : shapeL st.H (nm σ) pre post) (h3 : nodupB (post.map fun p => nm σ p.1) = true) (h4 : (refsAs as).all (inPre pre) = true) (h5 : (pre.all fun p => (refsO p.2).all (inPre pre)) = true)
    (h : ∀ n, n = n0 → K (St.put { env := st.env, H := updAll st.H (nm σ) post } dst (.s (.bool n)))) : OpK P st { dst := dst, op := .call { callee := .value f, args := args, argTypes := ts }, type := t', pos := pos, after := aft, guard := gd } K :=
  k_callXc σ hd hc ha hcv h1 h2 h3 h4 h5 (h _ rfl)
end
section
variable {gf : Nat} {caps as : List AV} {pre : List (Nat × OB)} {τ : Type} {R : τ → Prop} {post : τ → List (Nat × OB)} {r : τ → AV} {f : Operand} {args : Array Operand} {ts : Array TypeId} {dst : Option Tmp} {t' : TypeId} {pos : String} {aft : Array Edge} {gd : Option (Nat × Bool)} {K : St → Prop}
theorem k_callR (σ : List (Nat × Nat)) (hd : DenXR P gf pre as R post r) (hc : calleeX (st.ev f) = some (gf, caps)) (ha : optAll (passOf st.H (pre.map fun p => nm σ p.1)) (args.toList.map st.ev ++ caps) = some (rens (nm σ) as))
    (hcv : (args.toList.map st.ev ++ caps).all (passes (pre.map fun p => nm σ p.1)) = true)
    (h1 : allP (fun p => st.H (nm σ p.1) = some (renO (nm σ) p.2)) pre) (h0 : nodupB (pre.map fun p => nm σ p.1) = true) (h2 : ∀ x, R x → shapeL st.H (nm σ) pre (post x) ∧ nodupB ((post x).map fun p => nm σ p.1) = true) (h4 : (refsAs as).all (inPre pre) = true) (h5 : (pre.all fun p => (refsO p.2).all (inPre pre)) = true)
    (h : ∀ x, R x → K (St.put { env := st.env, H := updAll st.H (nm σ) (post x) } dst (ren (nm σ) (r x)))) : OpK P st { dst := dst, op := .call { callee := .value f, args := args, argTypes := ts }, type := t', pos := pos, after := aft, guard := gd } K :=
  OpK.mk <| .inr ⟨gf, caps, as, nm σ, pre, τ, R, post, r, false, hc, ha, .inr hcv, hd, ⟨allP_mem h1, nodupB_ok h0, fun k hk => inPre_ok (List.all_eq_true.1 h4 k hk), fun p hp k hk => inPre_ok (List.all_eq_true.1 (List.all_eq_true.1 h5 p hp) k hk)⟩, fun x hx => ⟨shapeL_pre (h2 x hx).1, shapeL_post (h2 x hx).1, nodupB_ok (h2 x hx).2, fun e => by cases e⟩, h⟩
theorem k_callRc (σ : List (Nat × Nat)) (hd : DenXR P gf pre as R post r) (hc : calleeX (st.ev f) = some (gf, caps)) (ha : optAll (passOf st.H (pre.map fun p => nm σ p.1)) (args.toList.map st.ev ++ caps) = some (rens (nm σ) as))
    (hcv : ∀ x, R x → pureV (r x) = true ∧ allP (fun p => pureO p.2) (post x))
    (h1 : allP (fun p => st.H (nm σ p.1) = some (renO (nm σ) p.2)) pre) (h0 : nodupB (pre.map fun p => nm σ p.1) = true) (h2 : ∀ x, R x → shapeL st.H (nm σ) pre (post x) ∧ nodupB ((post x).map fun p => nm σ p.1) = true) (h4 : (refsAs as).all (inPre pre) = true) (h5 : (pre.all fun p => (refsO p.2).all (inPre pre)) = true)
    (h : ∀ x, R x → K (St.put { env := st.env, H := updAll st.H (nm σ) (post x) } dst (ren (nm σ) (r x)))) : OpK P st { dst := dst, op := .call { callee := .value f, args := args, argTypes := ts }, type := t', pos := pos, after := aft, guard := gd } K :=
  OpK.mk <| .inr ⟨gf, caps, as, nm σ, pre, τ, R, post, r, true, hc, ha, .inl rfl, hd, ⟨allP_mem h1, nodupB_ok h0, fun k hk => inPre_ok (List.all_eq_true.1 h4 k hk), fun p hp k hk => inPre_ok (List.all_eq_true.1 (List.all_eq_true.1 h5 p hp) k hk)⟩, fun x hx => ⟨shapeL_pre (h2 x hx).1, shapeL_post (h2 x hx).1, nodupB_ok (h2 x hx).2, fun _ => ⟨(hcv x hx).1, allP_mem (hcv x hx).2⟩⟩, h⟩
end
/-! ### The end of a function that writes -/
theorem fx_tmp {rs : List ResultVar} {t : Nat} {v : AV} {F : AV → Prop} (hrs : rs = [.tmp t]) (hv : st.env t = v) (h : F v) : resX P st rs F := by
  subst hrs hv
  exact h
theorem fx_many {rs : List ResultVar} {F : AV → Prop} (h2 : (rs.length == 1) = false) (h : resXs P st rs fun vs => F (.tup vs)) : resX P st rs F := by
  unfold resX
  split
  · cases h2
  · exact h
theorem fx_cell {rs : List ResultVar} {t ty n : Nat} {cs ds : List AV} {F : AV → Prop} (hrs : rs = [.cell t ty]) (ht : tAgg P ty = some (some n)) (hx : cellsOf st.H (st.env t) = some cs) (hn : decide (n ≤ cs.length) = true) (hd : cs.take n = ds) (h : F (.agg ds)) : resX P st rs F := by
  subst hrs hd
  simp only [resX, resX1]
  refine ptrQ_of hx ?_
  simp only [ht]; exact ⟨by simpa using hn, h⟩
theorem fx_nil {F : List AV → Prop} (h : F []) : resXs P st [] F := h
theorem fxs_tmp {rs : List ResultVar} {t : Nat} {v : AV} {F : List AV → Prop} (hv : st.env t = v) (h : resXs P st rs fun vs => F (v :: vs)) : resXs P st (.tmp t :: rs) F := by
  subst hv
  exact h
theorem fxs_cell {rs : List ResultVar} {t ty n : Nat} {cs ds : List AV} {F : List AV → Prop} (ht : tAgg P ty = some (some n)) (hx : cellsOf st.H (st.env t) = some cs) (hn : decide (n ≤ cs.length) = true) (hd : cs.take n = ds) (h : resXs P st rs fun vs => F (AV.agg ds :: vs)) : resXs P st (.cell t ty :: rs) F := by
  subst hd
  simp only [resXs, resX1]
  refine ptrQ_of hx ?_
  simp only [ht]; exact ⟨by simpa using hn, h⟩
theorem fxs_cell1 {rs : List ResultVar} {t ty : Nat} {c : AV} {cs : List AV} {F : List AV → Prop} (ht : tAgg P ty = some none) (hx : cellsOf st.H (st.env t) = some (c :: cs)) (h : resXs P st rs fun vs => F (c :: vs)) : resXs P st (.cell t ty :: rs) F := by
  simp only [resXs, resX1]
  refine ptrQ_of hx ?_
  simp only [ht, headQ]; exact h
end
end Go.Proofs.Ytdnndlalflahhaa.Ev
