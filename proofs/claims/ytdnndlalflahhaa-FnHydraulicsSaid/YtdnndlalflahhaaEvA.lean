/- The abstract values and what it means that a value in memory is one of them. -/
import Derived.Below
import Derived.StillTail
set_option linter.unusedVariables false
set_option linter.unusedSimpArgs false
namespace Go.Proofs.Ytdnndlalflahhaa.Ev
open Go Go.RowKit
inductive AV where
  | s (v : Value)
  | nil
  | agg (cs : List AV)
  | tup (cs : List AV)
  | lst (sz : Nat) (es : List AV)
  | rp (cs : List AV)
  | fn (f : Nat) (caps : List AV)
  | ptr (h off : Nat)
  | eptr (h i off : Nat)
  | own (h n : Nat)
  | osl (h i n : Nat)
  | clo (f : Nat) (hs : List Nat)
  | nst (h n : Nat)
  | nptr (h i : Nat)
  | inr (h i : Nat)
  | junk
  deriving Inhabited
def flat : AV → List AV
  | .agg cs => cs
  | v => [v]
def flats (es : List AV) : List AV := es.flatMap flat
mutual
inductive Rep (w : World) (ok : Nat → Prop) : AV → Value → Prop
  | s {v : Value} (h1 : v.oneCell' = true) : Rep w ok (.s v) v
  | nil {a : Option Addr} : Rep w ok .nil (.slice a 0 0)
  | agg {cs : List AV} {vs : List Value} (h : Reps w ok cs vs) : Rep w ok (.agg cs) (.agg vs.toArray)
  | tup {cs : List AV} {vs : List Value} (h : Reps w ok cs vs) : Rep w ok (.tup cs) (.tuple vs.toArray)
  | lst0 {sz : Nat} {a : Option Addr} {c : Nat} : Rep w ok (.lst sz []) (.slice a 0 c)
  | lst {sz : Nat} {es : List AV} {a : Addr} {c : Nat} {arr : Array Value} {ty : TypeId} {fr : Nat × Nat} {vs rest : List Value}
      (hsz : ∀ e ∈ es, (flat e).length = sz) (hc : es.length ≤ c) (hs : a.spot = none) (hk : ok a.block)
      (hb : w.heap[a.block]? = some (.cells arr ty fr)) (hd : arr.toList.drop a.off = vs ++ rest) (h1 : ∀ v ∈ vs, v.oneCell' = true)
      (hr : Reps w ok (flats es) vs) : Rep w ok (.lst sz es) (.slice (some a) es.length c)
  | rp {cs : List AV} {a : Addr} {arr : Array Value} {ty : TypeId} {fr : Nat × Nat} {vs rest : List Value}
      (hs : a.spot = none) (hk : ok a.block)
      (hb : w.heap[a.block]? = some (.cells arr ty fr)) (hd : arr.toList.drop a.off = vs ++ rest) (h1 : ∀ v ∈ vs, v.oneCell' = true)
      (hr : Reps w ok cs vs) : Rep w ok (.rp cs) (.pointer (some a))
  | fn {f : Nat} {caps : List AV} {vs : List Value} (h : Reps w ok caps vs) : Rep w ok (.fn f caps) (.func (.func f) #[] vs.toArray)
inductive Reps (w : World) (ok : Nat → Prop) : List AV → List Value → Prop
  | nil : Reps w ok [] []
  | cons {x : AV} {xs : List AV} {v : Value} {vs : List Value} (h : Rep w ok x v) (t : Reps w ok xs vs) : Reps w ok (x :: xs) (v :: vs)
end
section
variable {w w' : World} {ok ok' : Nat → Prop}
theorem lt_of_heap {o : Obj} {b : Nat} (h : w.heap[b]? = some o) : b < w.heap.size := (Array.getElem?_eq_some_iff.1 h).1
mutual
theorem Rep.mono (hk : ∀ b, ok b → b < w.heap.size → ok' b) (hh : ∀ b, ok b → b < w.heap.size → w'.heap[b]? = w.heap[b]?) :
    ∀ {x : AV} {v : Value}, Rep w ok x v → Rep w' ok' x v
  | _, _, .s h => .s h
  | _, _, .nil => .nil
  | _, _, .agg h => .agg (Reps.mono hk hh h)
  | _, _, .tup h => .tup (Reps.mono hk hh h)
  | _, _, .lst0 => .lst0
  | _, _, .lst hsz hc hs hok hb hd h1 hr => .lst hsz hc hs (hk _ hok (lt_of_heap hb)) ((hh _ hok (lt_of_heap hb)).trans hb) hd h1 (Reps.mono hk hh hr)
  | _, _, .rp hs hok hb hd h1 hr => .rp hs (hk _ hok (lt_of_heap hb)) ((hh _ hok (lt_of_heap hb)).trans hb) hd h1 (Reps.mono hk hh hr)
  | _, _, .fn h => .fn (Reps.mono hk hh h)
theorem Reps.mono (hk : ∀ b, ok b → b < w.heap.size → ok' b) (hh : ∀ b, ok b → b < w.heap.size → w'.heap[b]? = w.heap[b]?) :
    ∀ {xs : List AV} {vs : List Value}, Reps w ok xs vs → Reps w' ok' xs vs
  | _, _, .nil => .nil
  | _, _, .cons h t => .cons (Rep.mono hk hh h) (Reps.mono hk hh t)
end
theorem Reps.length {xs : List AV} {vs : List Value} (h : Reps w ok xs vs) : vs.length = xs.length := by
  induction xs generalizing vs with
  | nil => cases h; rfl
  | cons x xs ih => cases h with | cons h t => simp [ih t]
theorem Reps.append {xs ys : List AV} {vs us : List Value} (h : Reps w ok xs vs) (k : Reps w ok ys us) : Reps w ok (xs ++ ys) (vs ++ us) := by
  induction xs generalizing vs with
  | nil => cases h; exact k
  | cons x xs ih => cases h with | cons h t => exact .cons h (ih t)
theorem Reps.split {xs ys : List AV} {vs : List Value} (h : Reps w ok (xs ++ ys) vs) : ∃ as bs, vs = as ++ bs ∧ Reps w ok xs as ∧ Reps w ok ys bs := by
  induction xs generalizing vs with
  | nil => exact ⟨[], vs, rfl, .nil, h⟩
  | cons x xs ih =>
    cases h with
    | cons h t =>
      obtain ⟨as, bs, rfl, h1, h2⟩ := ih t
      exact ⟨_ :: as, bs, rfl, .cons h h1, h2⟩
theorem Reps.drop {xs : List AV} {vs : List Value} (h : Reps w ok xs vs) (n : Nat) : Reps w ok (xs.drop n) (vs.drop n) := by
  induction n generalizing xs vs with
  | zero => simpa using h
  | succ n ih => cases h with
    | nil => simp; exact .nil
    | cons _ t => simpa using ih t
theorem Reps.take {xs : List AV} {vs : List Value} (h : Reps w ok xs vs) (n : Nat) : Reps w ok (xs.take n) (vs.take n) := by
  induction n generalizing xs vs with
  | zero => simp; exact .nil
  | succ n ih => cases h with
    | nil => simp; exact .nil
    | cons h t => simpa using .cons h (ih t)
theorem Reps.get {xs : List AV} {vs : List Value} (h : Reps w ok xs vs) {i : Nat} {x : AV} (hi : xs[i]? = some x) : ∃ v, vs[i]? = some v ∧ Rep w ok x v := by
  induction xs generalizing vs i with
  | nil => simp at hi
  | cons y ys ih =>
    cases h with
    | cons h t =>
      cases i with
      | zero => simp at hi; subst hi; exact ⟨_, rfl, h⟩
      | succ i => simpa using ih t (by simpa using hi)
theorem Reps.set {xs : List AV} {vs : List Value} (h : Reps w ok xs vs) {i : Nat} {x : AV} {v : Value} (hx : Rep w ok x v) : Reps w ok (xs.set i x) (vs.set i v) := by
  induction xs generalizing vs i with
  | nil => cases h; simp; exact .nil
  | cons y ys ih =>
    cases h with
    | cons h t =>
      cases i with
      | zero => exact .cons hx t
      | succ i => exact .cons h (ih t)
theorem Rep.flat {x : AV} {v : Value} (h : Rep w ok x v) : Reps w ok (flat x) v.cells.toList := by
  cases h with
  | agg h => simpa [Ev.flat, Value.cells] using h
  | s h1 =>
    have hc : v.cells = #[v] := by cases v <;> first | rfl | (simp [Value.oneCell'] at h1)
    rw [hc]; exact .cons (.s h1) .nil
  | nil => exact .cons .nil .nil
  | tup h => exact .cons (.tup h) .nil
  | lst0 => exact .cons .lst0 .nil
  | lst a b c d e f g h => exact .cons (.lst a b c d e f g h) .nil
  | rp c d e f g h => exact .cons (.rp c d e f g h) .nil
  | fn h => exact .cons (.fn h) .nil
def one : AV → Bool
  | .agg _ => false
  | .tup _ => false
  | _ => true
theorem Rep.one {x : AV} {v : Value} (h : Rep w ok x v) (h1 : one x = true) : v.oneCell' = true := by
  cases h <;> first | assumption | rfl | (simp [Ev.one] at h1)
theorem Reps.ones {xs : List AV} {vs : List Value} (h : Reps w ok xs vs) (h1 : xs.all Ev.one = true) : ∀ v ∈ vs, v.oneCell' = true := by
  induction xs generalizing vs with
  | nil => cases h; intro v hv; cases hv
  | cons x xs ih =>
    cases h with
    | cons h t =>
      simp only [List.all_cons, Bool.and_eq_true] at h1
      intro v hv
      cases hv with
      | head => exact h.one h1.1
      | tail _ hv => exact ih t h1.2 v hv
def noMem : AV → Bool
  | .s _ => true
  | .nil => true
  | _ => false
def noMems : AV → Bool
  | .tup cs => cs.all noMem
  | .agg cs => cs.all noMem
  | v => noMem v
theorem Rep.noMem {x : AV} {v : Value} (h : Rep w ok x v) (hm : noMem x = true) : Rep w' ok' x v := by
  cases h <;> first | (simp [Ev.noMem] at hm; done) | exact .s ‹_› | exact .nil
theorem Reps.noMem {xs : List AV} {vs : List Value} (h : Reps w ok xs vs) (hm : xs.all Ev.noMem = true) : Reps w' ok' xs vs := by
  induction xs generalizing vs with
  | nil => cases h; exact .nil
  | cons x xs ih =>
    cases h with
    | cons h t =>
      simp only [List.all_cons, Bool.and_eq_true] at hm
      exact .cons (h.noMem hm.1) (ih t hm.2)
theorem Rep.noMems {x : AV} {v : Value} (h : Rep w ok x v) (hm : noMems x = true) : Rep w' ok' x v := by
  cases h with
  | tup h => exact .tup (h.noMem hm)
  | agg h => exact .agg (h.noMem hm)
  | s h1 => exact .s h1
  | nil => exact .nil
  | lst0 => simp [Ev.noMems, Ev.noMem] at hm
  | lst => simp [Ev.noMems, Ev.noMem] at hm
  | rp => simp [Ev.noMems, Ev.noMem] at hm
  | fn => simp [Ev.noMems, Ev.noMem] at hm
end
end Go.Proofs.Ytdnndlalflahhaa.Ev
