/- The abstract state of a call, and what it says of the frame and the world. -/
import Derived.Test.YtjboimldlbapkaaEvA
namespace Go.Proofs.Ytjboimldlbapkaa.Ev
open Go Go.RowKit

inductive OB where
  | row (ty : TypeId) (sz : Nat) (es : List AV)
  | box (ty : TypeId) (cs : List AV)

structure St where
  env : Nat → AV
  H : Nat → Option OB

def upd {α : Type} (f : Nat → α) (t : Nat) (v : α) : Nat → α := fun i => if i = t then v else f i

theorem upd_same {α : Type} (f : Nat → α) (t : Nat) (v : α) : upd f t v t = v := if_pos rfl
theorem upd_ne {α : Type} (f : Nat → α) {t i : Nat} (v : α) (h : i ≠ t) : upd f t v i = f i := if_neg h

def blkOf : Value → Option Nat
  | .slice (some a) _ (_ + 1) => some a.block
  | .pointer (some a) => some a.block
  | _ => none

def isRO : AV → Bool
  | .ptr _ _ => false
  | .eptr _ _ _ => false
  | .own _ _ => false
  | .clo _ _ => false
  | .junk => false
  | _ => true

/-- What a temporary holds. -/
def RepV (φ : Nat → Value) (H : Nat → Option OB) (w : World) (ok : Nat → Prop) : AV → Value → Prop
  | .junk, _ => True
  | .ptr h off, x => ∃ ty cs g, H h = some (.box ty cs) ∧ φ h = .pointer (some ⟨g, 0, none⟩) ∧ x = .pointer (some ⟨g, off, none⟩)
  | .eptr h i off, x => ∃ ty sz es g m c, H h = some (.row ty sz es) ∧ φ h = .slice (some ⟨g, 0, none⟩) m c ∧ i < es.length ∧ x = .pointer (some ⟨g, i * sz + off, none⟩)
  | .own h n, x => ∃ ty sz es A m c, H h = some (.row ty sz es) ∧ φ h = .slice A m c ∧ n ≤ es.length ∧ x = .slice A n c
  | .clo f hs, x => x = .func (.func f) #[] (hs.map φ).toArray ∧ ∀ h ∈ hs, ∃ ty cs, H h = some (.box ty cs)
  | v, x => Rep w ok v x

theorem RepV.ro {φ : Nat → Value} {H : Nat → Option OB} {w : World} {ok : Nat → Prop} {v : AV} {x : Value} (hv : isRO v = true) : RepV φ H w ok v x ↔ Rep w ok v x := by
  cases v <;> first | exact Iff.rfl | (simp [isRO] at hv)

theorem Rep.isRO {w : World} {ok : Nat → Prop} {v : AV} {x : Value} (h : Rep w ok v x) : isRO v = true := by cases h <;> rfl

theorem RepV.of {φ : Nat → Value} {H : Nat → Option OB} {w : World} {ok : Nat → Prop} {v : AV} {x : Value} (h : Rep w ok v x) : RepV φ H w ok v x := (RepV.ro h.isRO).2 h

def All2 (R : AV → Value → Prop) (xs : List AV) (vs : List Value) : Prop := vs.length = xs.length ∧ ∀ (i : Nat) (x : AV) (v : Value), xs[i]? = some x → vs[i]? = some v → R x v

/-- A row of the call's own, or an empty one without room. -/
def OwnsR (w : World) (B : Nat) (ty sz : Nat) (fv : Value) (n : Nat) (xs : List Value) : Prop :=
  w.ownsRow B ty sz fv n xs ∨ (n = 0 ∧ xs = [] ∧ ∃ a, fv = .slice a 0 0)

theorem OwnsR.length {w : World} {B ty sz n : Nat} {fv : Value} {xs : List Value} (h : OwnsR w B ty sz fv n xs) : xs.length = n * sz := by
  rcases h with h | ⟨rfl, rfl, -⟩
  · exact h.1
  · simp

theorem OwnsR.cases {w : World} {B ty sz n : Nat} {fv : Value} {xs : List Value} (h : OwnsR w B ty sz fv n xs) :
    (n = 0 ∧ xs = [] ∧ ∃ a, fv = .slice a 0 0) ∨ ∃ g cap cur, fv = .slice (some ⟨g, 0, none⟩) n cap ∧ B ≤ g ∧ w.heap[g]? = some (.cells cur ty (0, 0)) ∧ n ≤ cap ∧ cap ≤ maxLen ∧ cur.size = cap * sz ∧ cur.toList.take (n * sz) = xs := by
  rcases h with h | h
  · rcases h.2 with ⟨h1, h2⟩ | h2
    · subst h2
      exact .inl ⟨rfl, List.eq_nil_of_length_eq_zero (by simpa using h.1), none, h1⟩
    · exact .inr h2
  · exact .inl h

theorem OwnsR.kept {w w' : World} {B ty sz n : Nat} {fv : Value} {xs : List Value} (h : OwnsR w B ty sz fv n xs) {row : Option Nat} (hg : w.grownBy w' row) (hne : ∀ b, row = some b → blkOf fv ≠ some b) : OwnsR w' B ty sz fv n xs := by
  rcases h.cases with h | ⟨g, cap, cur, rfl, hb, hh, h1, h2, h3, h4⟩
  · exact .inr h
  · cases cap with
    | zero =>
      have : n = 0 := by omega
      subst this
      exact .inr ⟨rfl, by simpa using h4.symm, _, rfl⟩
    | succ cap =>
      refine .inl ⟨h.length, .inr ⟨g, cap + 1, cur, rfl, hb, ?_, h1, h2, h3, h4⟩⟩
      rw [hg.block g (Array.getElem?_eq_some_iff.1 hh).1 (fun e => hne g e.symm rfl)]
      exact hh

/-- What is owned under one name. -/
def OwnOb (B : Nat) (φ : Nat → Value) (H : Nat → Option OB) (w : World) (ok : Nat → Prop) (fv : Value) : OB → Prop
  | .row ty sz es => ∃ xs, OwnsR w B ty sz fv es.length xs ∧ Reps w ok (flats es) xs ∧ (∀ x ∈ xs, x.oneCell' = true) ∧ ∀ e ∈ es, (flat e).length = sz
  | .box ty cs => ∃ g arr, fv = .pointer (some ⟨g, 0, none⟩) ∧ B ≤ g ∧ w.heap[g]? = some (.cells arr ty (0, 0)) ∧ (∀ v ∈ arr.toList, v.oneCell' = true) ∧ All2 (RepV φ H w ok) cs arr.toList

structure Ctx where
  w0 : World
  ok0 : Nat → Prop
  N : Nat

def okG (C : Ctx) (φ : Nat → Value) (H : Nat → Option OB) (b : Nat) : Prop :=
  (C.ok0 b ∨ C.w0.heap.size ≤ b) ∧ ∀ h, (H h).isSome = true → blkOf (φ h) ≠ some b

structure GamW (C : Ctx) (st : St) (φ : Nat → Value) (a : Act) (w : World) : Prop where
  size : a.tmps.size = C.N
  defers : a.defers = []
  below : Below C.w0.heap.size C.w0 w
  disj : ∀ h k b, h ≠ k → (st.H h).isSome = true → (st.H k).isSome = true → blkOf (φ h) = some b → blkOf (φ k) ≠ some b
  own : ∀ h ob, st.H h = some ob → OwnOb C.w0.heap.size φ st.H w (okG C φ st.H) (φ h) ob
  rep : ∀ t, RepV φ st.H w (okG C φ st.H) (st.env t) (a.tmps.getD t undef)

def Gam (C : Ctx) (st : St) (a : Act) (w : World) : Prop := ∃ φ, GamW C st φ a w

theorem grown_of_below {w w' : World} (h : Below w.heap.size w w') (row : Option Nat) : w.grownBy w' row :=
  ⟨h.os, h.tape, h.output, h.size, fun k hk _ => h.block k hk⟩

theorem RepV.mono {φ : Nat → Value} {H : Nat → Option OB} {w w' : World} {ok ok' : Nat → Prop} (hk : ∀ b, ok b → b < w.heap.size → ok' b) (hh : ∀ b, ok b → b < w.heap.size → w'.heap[b]? = w.heap[b]?)
    {v : AV} {x : Value} (h : RepV φ H w ok v x) : RepV φ H w' ok' v x := by
  cases hv : isRO v with
  | true => exact (RepV.ro hv).2 (((RepV.ro hv).1 h).mono hk hh)
  | false => cases v <;> first | exact h | (simp [Ev.isRO] at hv)

theorem All2.mono {R R' : AV → Value → Prop} {xs : List AV} {vs : List Value} (h : All2 R xs vs) (hr : ∀ x v, R x v → R' x v) : All2 R' xs vs :=
  ⟨h.1, fun i x v hx hv => hr _ _ (h.2 i x v hx hv)⟩

theorem All2.get {R : AV → Value → Prop} {xs : List AV} {vs : List Value} (h : All2 R xs vs) {i : Nat} {x : AV} (hx : xs[i]? = some x) : ∃ v, vs[i]? = some v ∧ R x v := by
  have hi : i < xs.length := (List.getElem?_eq_some_iff.1 hx).1
  have hi' : i < vs.length := by rw [h.1]; exact hi
  exact ⟨vs[i], List.getElem?_eq_getElem hi', h.2 i x _ hx (List.getElem?_eq_getElem hi')⟩

theorem All2.drop {R : AV → Value → Prop} {xs : List AV} {vs : List Value} (h : All2 R xs vs) (n : Nat) : All2 R (xs.drop n) (vs.drop n) :=
  ⟨by simp [h.1], fun i x v hx hv => h.2 (n + i) x v (by simpa using hx) (by simpa using hv)⟩

theorem All2.take {R : AV → Value → Prop} {xs : List AV} {vs : List Value} (h : All2 R xs vs) (n : Nat) : All2 R (xs.take n) (vs.take n) := by
  refine ⟨by simp [h.1], fun i x v hx hv => ?_⟩
  rw [List.getElem?_take] at hx hv
  split at hx
  · rename_i hlt; rw [if_pos hlt] at hv; exact h.2 i x v hx hv
  · cases hx

theorem All2.reps {φ : Nat → Value} {H : Nat → Option OB} {w : World} {ok : Nat → Prop} {xs : List AV} {vs : List Value} (h : All2 (RepV φ H w ok) xs vs) (hr : xs.all isRO = true) : Reps w ok xs vs := by
  induction xs generalizing vs with
  | nil =>
    have : vs = [] := List.eq_nil_of_length_eq_zero (by simpa using h.1)
    subst this; exact .nil
  | cons x xs ih =>
    cases vs with
    | nil => simpa using h.1
    | cons v vs =>
      simp only [List.all_cons, Bool.and_eq_true] at hr
      refine .cons ((RepV.ro hr.1).1 (h.2 0 x v rfl rfl)) (ih ⟨by simpa using h.1, fun i y u hy hu => h.2 (i + 1) y u (by simpa using hy) (by simpa using hu)⟩ hr.2)

theorem All2.of_reps {φ : Nat → Value} {H : Nat → Option OB} {w : World} {ok : Nat → Prop} {xs : List AV} {vs : List Value} (h : Reps w ok xs vs) : All2 (RepV φ H w ok) xs vs := by
  refine ⟨h.length, fun i x v hx hv => ?_⟩
  obtain ⟨v', hv', hr⟩ := h.get hx
  rw [hv] at hv'
  cases hv'
  exact .of hr

/-- The world goes on, nothing that was there has turned. -/
theorem GamW.quiet {C : Ctx} {st : St} {φ : Nat → Value} {a : Act} {w w' : World} (g : GamW C st φ a w) (h : Below w.heap.size w w') : GamW C st φ a w' := by
  have hh : ∀ b, okG C φ st.H b → b < w.heap.size → w'.heap[b]? = w.heap[b]? := fun b _ hb => h.block b hb
  refine ⟨g.size, g.defers, g.below.trans (h.mono g.below.size), g.disj, fun k ob hk => ?_, fun t => (g.rep t).mono (fun _ h _ => h) hh⟩
  have ho := g.own k ob hk
  cases ob with
  | row ty sz es =>
    obtain ⟨xs, h1, h2, h3, h4⟩ := ho
    exact ⟨xs, h1.kept (grown_of_below h none) (fun b hb => by cases hb), h2.mono (fun _ h _ => h) hh, h3, h4⟩
  | box ty cs =>
    obtain ⟨gb, arr, h1, h2, h3, h4, h5⟩ := ho
    exact ⟨gb, arr, h1, h2, (h.block gb (lt_of_heap h3)).trans h3, h4, h5.mono fun _ _ h => h.mono (fun _ h _ => h) hh⟩

def St.put (st : St) (dst : Option Tmp) (v : AV) : St :=
  match dst with
  | some d => { st with env := upd st.env d v }
  | none => st

theorem getD_set (a : Array Value) (d t : Nat) (x : Value) (hd : d < a.size) : (a.setIfInBounds d x).getD t undef = if t = d then x else a.getD t undef := by
  by_cases h : t = d
  · subst h; simp [hd]
  · simp only [h, if_false]
    simp only [Array.getD_eq_getD_getElem?]
    rw [Array.getElem?_setIfInBounds_ne (Ne.symm h)]

theorem GamW.put {C : Ctx} {st : St} {φ : Nat → Value} {a : Act} {w : World} (g : GamW C st φ a w) {v : AV} {x : Value} (hr : RepV φ st.H w (okG C φ st.H) v x)
    (dst : Option Tmp) (hd : ∀ d, dst = some d → d < C.N) : GamW C (st.put dst v) φ (a.put dst x) w := by
  cases dst with
  | none => exact g
  | some d =>
    have hd' := hd d rfl
    refine ⟨by simp [Act.put, g.size], g.defers, g.below, g.disj, g.own, fun t => ?_⟩
    simp only [Act.put, St.put]
    rw [getD_set _ _ _ _ (by rw [g.size]; exact hd')]
    by_cases h : t = d
    · subst h; rw [upd_same, if_pos rfl]; exact hr
    · rw [upd_ne _ _ h, if_neg h]; exact g.rep t

def cellAV : Value → AV
  | .slice none 0 0 => .nil
  | v => .s v

def constAV : Value → AV
  | .slice none 0 0 => .nil
  | .agg cs => if cs.toList.all Value.oneCell' then .agg (cs.toList.map cellAV) else .junk
  | .tuple cs => if cs.toList.all Value.oneCell' then .tup (cs.toList.map cellAV) else .junk
  | v => .s v

theorem Rep.cell {w : World} {ok : Nat → Prop} (v : Value) (h : v.oneCell' = true) : Rep w ok (cellAV v) v := by
  unfold cellAV
  split
  · exact .nil
  · exact .s h

theorem Reps.cells {w : World} {ok : Nat → Prop} (vs : List Value) (h : vs.all Value.oneCell' = true) : Reps w ok (vs.map cellAV) vs := by
  induction vs with
  | nil => exact .nil
  | cons v vs ih => simp only [List.all_cons, Bool.and_eq_true] at h; exact .cons (.cell v h.1) (ih h.2)

theorem RepV.const {φ : Nat → Value} {H : Nat → Option OB} {w : World} {ok : Nat → Prop} (v : Value) : RepV φ H w ok (constAV v) v := by
  unfold constAV
  split
  · exact RepV.of .nil
  · split
    · rename_i cs hc; exact RepV.of (by simpa using Rep.agg (vs := cs.toList) (Reps.cells (w := w) (ok := ok) _ hc))
    · trivial
  · split
    · rename_i cs hc; exact RepV.of (by simpa using Rep.tup (vs := cs.toList) (Reps.cells (w := w) (ok := ok) _ hc))
    · trivial
  · rename_i h1 h2 h3
    refine RepV.of (.s ?_)
    cases v <;> first | rfl | exact (h2 _ rfl).elim | exact (h3 _ rfl).elim

def St.ev (st : St) : Operand → AV
  | .tmp t => st.env t
  | .const v => constAV v
  | .func f => .fn f []
  | .global _ => .junk

theorem GamW.ev {C : Ctx} {st : St} {φ : Nat → Value} {a : Act} {w : World} (g : GamW C st φ a w) (x : Operand) : RepV φ st.H w (okG C φ st.H) (st.ev x) (a.eval x) := by
  cases x with
  | tmp t => exact g.rep t
  | const v => exact RepV.const v
  | func f => exact RepV.of (Rep.fn (f := f) (Reps.nil (w := w) (ok := okG C φ st.H)))
  | global n => trivial

def yieldedA (ops : Array Oper) (st : St) (j : Nat) : Option Bool :=
  match (ops[j]?).bind (·.dst) with
  | some d => match st.env d with
    | .s (.bool b) => some b
    | _ => none
  | none => none

theorem GamW.yielded {C : Ctx} {st : St} {φ : Nat → Value} {a : Act} {w : World} (g : GamW C st φ a w) {ops : Array Oper} {j : Nat} {b : Bool} (h : yieldedA ops st j = some b) : yielded ops a.tmps j = some b := by
  unfold yieldedA at h
  cases hd : (ops[j]?).bind (·.dst) with
  | none => simp [hd] at h
  | some d =>
    simp only [hd] at h
    split at h
    · rename_i b' hb
      cases h
      have hr := g.rep d
      rw [hb] at hr
      have hr' : a.tmps.getD d undef = .bool b := by
        have h2 : Rep w (okG C φ st.H) (.s (.bool b)) (a.tmps.getD d undef) := hr
        generalize a.tmps.getD d undef = z at h2
        cases h2; rfl
      simp only [Array.getD_eq_getD_getElem?] at hr'
      unfold Go.yielded
      rw [hd]
      simp only [Option.bind_some]
      cases ht : a.tmps[d]? with
      | none => rw [ht] at hr'; simp [undef] at hr'
      | some x => rw [ht] at hr'; simp at hr'; subst hr'; rfl
    · cases h

end Go.Proofs.Ytjboimldlbapkaa.Ev
