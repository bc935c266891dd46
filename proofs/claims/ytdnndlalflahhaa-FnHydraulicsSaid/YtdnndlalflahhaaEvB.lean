/- The abstract state of a call, and what it says of the frame and the world. -/
import Derived.Test.YtdnndlalflahhaaEvA
set_option linter.unusedVariables false
set_option linter.unusedSimpArgs false
namespace Go.Proofs.Ytdnndlalflahhaa.Ev
open Go Go.RowKit
inductive OB where
  | row (ty : TypeId) (sz : Nat) (es : List AV)
  | box (ty : TypeId) (cs : List AV)
  | nest (ty tyI : TypeId) (szI : Nat) (rows : List (List AV))
structure St where
  env : Nat → AV
  H : Nat → Option OB
def upd {α : Type} (f : Nat → α) (t : Nat) (v : α) : Nat → α := fun i => if i = t then v else f i
theorem upd_same {α : Type} (f : Nat → α) (t : Nat) (v : α) : upd f t v t = v := if_pos rfl
theorem upd_ne {α : Type} (f : Nat → α) {t i : Nat} (v : α) (h : i ≠ t) : upd f t v i = f i := if_neg h
def blkOf : Value → Option Nat
  | .slice (some a) _ (_ + 1) => some a.block
  | .pointer (some a) => some a.block
  | _ => none
def Blk : Value → Nat → Prop
  | .tuple a, b => ∃ v ∈ a.toList, blkOf v = some b
  | v, b => blkOf v = some b
theorem Blk.of {v : Value} {b : Nat} (h : blkOf v = some b) : Blk v b := by
  cases v <;> first | exact h | (simp [blkOf] at h)
theorem blk_slice {a : Option Addr} {n c b : Nat} : Blk (.slice a n c) b ↔ blkOf (.slice a n c) = some b := Iff.rfl
theorem blk_ptr {a : Option Addr} {b : Nat} : Blk (.pointer a) b ↔ blkOf (.pointer a) = some b := Iff.rfl
theorem blk_tuple {a : Array Value} {b : Nat} : Blk (.tuple a) b ↔ ∃ v ∈ a.toList, blkOf v = some b := Iff.rfl
mutual
def isRO : AV → Bool
  | .ptr _ _ => false
  | .eptr _ _ _ => false
  | .own _ _ => false
  | .osl _ _ _ => false
  | .clo _ _ => false
  | .nst _ _ => false
  | .nptr _ _ => false
  | .inr _ _ => false
  | .junk => false
  | .agg cs => isROs cs
  | .tup cs => isROs cs
  | .s _ => true
  | .nil => true
  | .lst _ _ => true
  | .rp _ => true
  | .fn _ _ => true
def isROs : List AV → Bool
  | [] => true
  | c :: cs => isRO c && isROs cs
end
def leafV : AV → Bool
  | .agg _ => false
  | .tup _ => false
  | _ => true
mutual
def RepV (φ : Nat → Value) (H : Nat → Option OB) (w : World) (ok : Nat → Prop) : AV → Value → Prop
  | .junk, _ => True
  | .ptr h off, x => ∃ ty cs g, H h = some (.box ty cs) ∧ φ h = .pointer (some ⟨g, 0, none⟩) ∧ x = .pointer (some ⟨g, off, none⟩)
  | .eptr h i off, x => ∃ ty sz es g m c, H h = some (.row ty sz es) ∧ φ h = .slice (some ⟨g, 0, none⟩) m c ∧ i < es.length ∧ x = .pointer (some ⟨g, i * sz + off, none⟩)
  | .own h n, x => ∃ ty sz es A m c, H h = some (.row ty sz es) ∧ φ h = .slice A m c ∧ n ≤ es.length ∧ x = .slice A n c
  | .osl h i n, x => ∃ ty sz es A m c A' c', H h = some (.row ty sz es) ∧ φ h = .slice A m c ∧ i + n ≤ es.length ∧ x = .slice A' n c' ∧ (0 < n ∨ 0 < c' → ∃ b, A = some ⟨b, 0, none⟩ ∧ A' = some ⟨b, i * sz, none⟩ ∧ n ≤ c' ∧ i + c' ≤ c)
  | .clo f hs, x => x = .func (.func f) #[] (hs.map φ).toArray ∧ ∀ h ∈ hs, ∃ ty cs, H h = some (.box ty cs)
  | .nst h n, x => ∃ ty tyI szI rows fs, H h = some (.nest ty tyI szI rows) ∧ φ h = .tuple (x :: fs).toArray ∧ x.oneCell' = true ∧ rows.length = n
  | .nptr h i, x => ∃ ty tyI szI rows g m c fs, H h = some (.nest ty tyI szI rows) ∧ φ h = .tuple (.slice (some ⟨g, 0, none⟩) m c :: fs).toArray ∧ i < rows.length ∧ x = .pointer (some ⟨g, i, none⟩)
  | .inr h i, x => ∃ ty tyI szI rows fo fs, H h = some (.nest ty tyI szI rows) ∧ φ h = .tuple (fo :: fs).toArray ∧ fs[i]? = some x ∧ x.oneCell' = true
  | .agg cs, x => ∃ vs : List Value, x = .agg vs.toArray ∧ RepVs φ H w ok cs vs
  | .tup cs, x => ∃ vs : List Value, x = .tuple vs.toArray ∧ RepVs φ H w ok cs vs
  | .s v, x => Rep w ok (.s v) x
  | .nil, x => Rep w ok .nil x
  | .lst sz es, x => Rep w ok (.lst sz es) x
  | .rp cs, x => Rep w ok (.rp cs) x
  | .fn f cs, x => Rep w ok (.fn f cs) x
def RepVs (φ : Nat → Value) (H : Nat → Option OB) (w : World) (ok : Nat → Prop) : List AV → List Value → Prop
  | [], vs => vs = []
  | c :: cs, vs => ∃ v us, vs = v :: us ∧ RepV φ H w ok c v ∧ RepVs φ H w ok cs us
end
theorem isROs_all : ∀ cs : List AV, isROs cs = cs.all isRO
  | [] => rfl
  | c :: cs => by simp only [isROs, List.all_cons, isROs_all cs]
section
variable {φ : Nat → Value} {H : Nat → Option OB} {w : World} {ok : Nat → Prop}
mutual
theorem RepV.of : ∀ {v : AV} {x : Value}, Rep w ok v x → RepV φ H w ok v x
  | _, _, .s h => by unfold RepV; exact .s h
  | _, _, .nil => by unfold RepV; exact .nil
  | _, _, .agg h => by unfold RepV; exact ⟨_, rfl, RepVs.of h⟩
  | _, _, .tup h => by unfold RepV; exact ⟨_, rfl, RepVs.of h⟩
  | _, _, .lst0 => by unfold RepV; exact .lst0
  | _, _, .lst a b c d e f g h => by unfold RepV; exact .lst a b c d e f g h
  | _, _, .rp a b c d e f => by unfold RepV; exact .rp a b c d e f
  | _, _, .fn h => by unfold RepV; exact .fn h
theorem RepVs.of : ∀ {cs : List AV} {vs : List Value}, Reps w ok cs vs → RepVs φ H w ok cs vs
  | _, _, .nil => by unfold RepVs; rfl
  | _, _, .cons h t => by unfold RepVs; exact ⟨_, _, rfl, RepV.of h, RepVs.of t⟩
end
mutual
theorem RepV.toRep : ∀ (v : AV) (x : Value), isRO v = true → RepV φ H w ok v x → Rep w ok v x
  | .junk, _, h, _ => by simp [isRO] at h
  | .ptr _ _, _, h, _ => by simp [isRO] at h
  | .eptr _ _ _, _, h, _ => by simp [isRO] at h
  | .own _ _, _, h, _ => by simp [isRO] at h
  | .osl _ _ _, _, h, _ => by simp [isRO] at h
  | .clo _ _, _, h, _ => by simp [isRO] at h
  | .nst _ _, _, h, _ => by simp [isRO] at h
  | .nptr _ _, _, h, _ => by simp [isRO] at h
  | .inr _ _, _, h, _ => by simp [isRO] at h
  | .agg cs, _, h, hr => by
    unfold RepV at hr
    obtain ⟨vs, rfl, hr⟩ := hr
    exact .agg (RepVs.toReps cs vs (by simpa [isRO] using h) hr)
  | .tup cs, _, h, hr => by
    unfold RepV at hr
    obtain ⟨vs, rfl, hr⟩ := hr
    exact .tup (RepVs.toReps cs vs (by simpa [isRO] using h) hr)
  | .s _, _, _, hr => by unfold RepV at hr; exact hr
  | .nil, _, _, hr => by unfold RepV at hr; exact hr
  | .lst _ _, _, _, hr => by unfold RepV at hr; exact hr
  | .rp _, _, _, hr => by unfold RepV at hr; exact hr
  | .fn _ _, _, _, hr => by unfold RepV at hr; exact hr
theorem RepVs.toReps : ∀ (cs : List AV) (vs : List Value), isROs cs = true → RepVs φ H w ok cs vs → Reps w ok cs vs
  | [], vs, _, hr => by unfold RepVs at hr; subst hr; exact .nil
  | c :: cs, vs, h, hr => by
    unfold RepVs at hr
    obtain ⟨v, us, rfl, h1, h2⟩ := hr
    simp only [isROs, Bool.and_eq_true] at h
    exact .cons (RepV.toRep c v h.1 h1) (RepVs.toReps cs us h.2 h2)
end
end
theorem RepV.ro {φ : Nat → Value} {H : Nat → Option OB} {w : World} {ok : Nat → Prop} {v : AV} {x : Value} (hv : isRO v = true) : RepV φ H w ok v x ↔ Rep w ok v x :=
  ⟨RepV.toRep v x hv, RepV.of⟩
mutual
theorem Rep.isRO {w : World} {ok : Nat → Prop} : ∀ {v : AV} {x : Value}, Rep w ok v x → isRO v = true
  | _, _, .s _ => rfl
  | _, _, .nil => rfl
  | _, _, .agg h => by unfold Ev.isRO; exact Reps.isROs h
  | _, _, .tup h => by unfold Ev.isRO; exact Reps.isROs h
  | _, _, .lst0 => rfl
  | _, _, .lst _ _ _ _ _ _ _ _ => rfl
  | _, _, .rp _ _ _ _ _ _ => rfl
  | _, _, .fn _ => rfl
theorem Reps.isROs {w : World} {ok : Nat → Prop} : ∀ {cs : List AV} {vs : List Value}, Reps w ok cs vs → isROs cs = true
  | _, _, .nil => rfl
  | _, _, .cons h t => by simp only [Ev.isROs, Rep.isRO h, Reps.isROs t, Bool.and_self]
end
def All2 (R : AV → Value → Prop) (xs : List AV) (vs : List Value) : Prop := vs.length = xs.length ∧ ∀ (i : Nat) (x : AV) (v : Value), xs[i]? = some x → vs[i]? = some v → R x v
def OwnsR (w : World) (B : Nat) (ty sz : Nat) (fv : Value) (n : Nat) (xs : List Value) : Prop :=
  w.ownsRow B ty sz fv n xs ∨ (n = 0 ∧ xs = [] ∧ ∃ a, fv = .slice a 0 0)
theorem OwnsR.length {w : World} {B ty sz n : Nat} {fv : Value} {xs : List Value} (h : OwnsR w B ty sz fv n xs) : xs.length = n * sz := by
  rcases h with h | ⟨rfl, rfl, -⟩
  · exact h.1
  · simp
theorem OwnsR.cases {w : World} {B ty sz n : Nat} {fv : Value} {xs : List Value} (h : OwnsR w B ty sz fv n xs) :
    (n = 0 ∧ xs = [] ∧ ∃ a, fv = .slice a 0 0) ∨ ∃ g cap cur, fv = .slice (some ⟨g, 0, none⟩) n cap ∧ B ≤ g ∧ w.heap[g]? = some (.cells cur ty (0, 0)) ∧ n ≤ cap ∧ cap ≤ maxLen ∧ cur.size = cap * sz ∧ cur.toList.take (n * sz) = xs := by
  rcases h with h | h
  · rcases h.2 with ⟨h1, h2⟩ | h2
    · subst h2
      exact .inl ⟨rfl, List.eq_nil_of_length_eq_zero (by simpa using h.1), none, h1⟩
    · exact .inr h2
  · exact .inl h
theorem OwnsR.kept {w w' : World} {B ty sz n : Nat} {fv : Value} {xs : List Value} (h : OwnsR w B ty sz fv n xs) {row : Option Nat} (hg : w.grownBy w' row) (hne : ∀ b, row = some b → blkOf fv ≠ some b) : OwnsR w' B ty sz fv n xs := by
  rcases h.cases with h | ⟨g, cap, cur, rfl, hb, hh, h1, h2, h3, h4⟩
  · exact .inr h
  · cases cap with
    | zero =>
      have : n = 0 := by omega
      subst this
      exact .inr ⟨rfl, by simpa using h4.symm, _, rfl⟩
    | succ cap =>
      refine .inl ⟨h.length, .inr ⟨g, cap + 1, cur, rfl, hb, ?_, h1, h2, h3, h4⟩⟩
      rw [hg.block g (Array.getElem?_eq_some_iff.1 hh).1 (fun e => hne g e.symm rfl)]
      exact hh
def RowAt (w : World) (ok : Nat → Prop) (fv : Value) (ty sz : Nat) (es : List AV) : Prop := ∃ xs, OwnsR w 0 ty sz fv es.length xs ∧ Reps w ok (flats es) xs ∧ (∀ x ∈ xs, x.oneCell' = true) ∧ ∀ e ∈ es, (flat e).length = sz
def Apart (l : List Value) : Prop := ∀ (i j : Nat) (f g : Value) (b : Nat), i ≠ j → l[i]? = some f → l[j]? = some g → blkOf f = some b → blkOf g ≠ some b
def OwnOb (φ : Nat → Value) (H : Nat → Option OB) (w : World) (ok : Nat → Prop) (fv : Value) : OB → Prop
  | .row ty sz es => ∃ xs, OwnsR w 0 ty sz fv es.length xs ∧ Reps w ok (flats es) xs ∧ (∀ x ∈ xs, x.oneCell' = true) ∧ ∀ e ∈ es, (flat e).length = sz
  | .box ty cs => ∃ g arr, fv = .pointer (some ⟨g, 0, none⟩) ∧ w.heap[g]? = some (.cells arr ty (0, 0)) ∧ (∀ v ∈ arr.toList, v.oneCell' = true) ∧ All2 (RepV φ H w ok) cs arr.toList
  | .nest ty tyI szI rows => ∃ fo fs, fv = .tuple (fo :: fs).toArray ∧ OwnsR w 0 ty 1 fo rows.length fs ∧ (∀ (i : Nat) (r : List AV) (f : Value), rows[i]? = some r → fs[i]? = some f → RowAt w ok f tyI szI r) ∧ Apart (fo :: fs)
theorem RowAt.kept {w w' : World} {ok ok' : Nat → Prop} {ty sz : Nat} {fv : Value} {es : List AV} (h : RowAt w ok fv ty sz es) {row : Option Nat} (hg : w.grownBy w' row) (hne : ∀ b, row = some b → blkOf fv ≠ some b)
    (hk : ∀ b, ok b → b < w.heap.size → ok' b) (hh : ∀ b, ok b → b < w.heap.size → w'.heap[b]? = w.heap[b]?) : RowAt w' ok' fv ty sz es := by
  obtain ⟨xs, h1, h2, h3, h4⟩ := h
  exact ⟨xs, h1.kept hg hne, h2.mono hk hh, h3, h4⟩
theorem nest_kept {φ φ' : Nat → Value} {H H' : Nat → Option OB} {w w' : World} {ok ok' : Nat → Prop} {fv : Value} {ty tyI szI : Nat} {rows : List (List AV)} (h : OwnOb φ H w ok fv (.nest ty tyI szI rows)) {row : Option Nat} (hg : w.grownBy w' row) (hne : ∀ b, row = some b → ¬ Blk fv b)
    (hk : ∀ b, ok b → b < w.heap.size → ok' b) (hh : ∀ b, ok b → b < w.heap.size → w'.heap[b]? = w.heap[b]?) : OwnOb φ' H' w' ok' fv (.nest ty tyI szI rows) := by
  obtain ⟨fo, fs, rfl, h1, h2, h3⟩ := h
  refine ⟨fo, fs, rfl, h1.kept hg (fun b hb e => hne b hb ⟨fo, by simp, e⟩), fun i r f hr hf => (h2 i r f hr hf).kept hg (fun b hb e => hne b hb ⟨f, ?_, e⟩) hk hh, h3⟩
  simp only [List.mem_cons]
  exact .inr (List.mem_of_getElem? hf)
theorem OwnsR.slice {w : World} {B ty sz n : Nat} {fv : Value} {xs : List Value} (h : OwnsR w B ty sz fv n xs) : ∃ A c, fv = .slice A n c := by
  rcases h.cases with ⟨rfl, -, a', h⟩ | ⟨g', cap, cur, h, -⟩
  · exact ⟨_, _, h⟩
  · exact ⟨_, _, h⟩
theorem OwnsR.blk {w : World} {B ty sz n b : Nat} {fv : Value} {xs : List Value} (h : OwnsR w B ty sz fv n xs) (hb : Blk fv b) : blkOf fv = some b := by
  obtain ⟨A, c, rfl⟩ := h.slice
  exact hb
theorem OwnsR.stay {w w' : World} {B ty sz n : Nat} {fv : Value} {xs : List Value} (h : OwnsR w B ty sz fv n xs) (hs : ∀ b, blkOf fv = some b → w'.heap[b]? = w.heap[b]?) : OwnsR w' B ty sz fv n xs := by
  rcases h.cases with h | ⟨g, cap, cur, rfl, hb, hh, h1, h2, h3, h4⟩
  · exact .inr h
  · cases cap with
    | zero =>
      have : n = 0 := by omega
      subst this
      exact .inr ⟨rfl, by simpa using h4.symm, _, rfl⟩
    | succ cap => exact .inl ⟨h.length, .inr ⟨g, cap + 1, cur, rfl, hb, by rw [hs g rfl]; exact hh, h1, h2, h3, h4⟩⟩
theorem RowAt.stay {w w' : World} {ok ok' : Nat → Prop} {ty sz : Nat} {fv : Value} {es : List AV} (h : RowAt w ok fv ty sz es) (hs : ∀ b, blkOf fv = some b → w'.heap[b]? = w.heap[b]?)
    (hr : ∀ xs, Reps w ok (flats es) xs → Reps w' ok' (flats es) xs) : RowAt w' ok' fv ty sz es := by
  obtain ⟨xs, h1, h2, h3, h4⟩ := h
  exact ⟨xs, h1.stay hs, hr _ h2, h3, h4⟩
theorem nest_stay {φ φ' : Nat → Value} {H H' : Nat → Option OB} {w w' : World} {ok ok' : Nat → Prop} {fv : Value} {ty tyI szI : Nat} {rows : List (List AV)} (h : OwnOb φ H w ok fv (.nest ty tyI szI rows)) (hs : ∀ b, Blk fv b → w'.heap[b]? = w.heap[b]?)
    (hr : ∀ r ∈ rows, ∀ xs, Reps w ok (flats r) xs → Reps w' ok' (flats r) xs) : OwnOb φ' H' w' ok' fv (.nest ty tyI szI rows) := by
  obtain ⟨fo, fs, rfl, h1, h2, h3⟩ := h
  refine ⟨fo, fs, rfl, h1.stay (fun b hb => hs b ⟨fo, by simp, hb⟩), fun i r f hi hf => (h2 i r f hi hf).stay (fun b hb => hs b ⟨f, ?_, hb⟩) (hr r (List.mem_of_getElem? hi)), h3⟩
  simp only [List.mem_cons]
  exact .inr (List.mem_of_getElem? hf)
structure BelowM (M : Nat → Prop) (w w' : World) : Prop where
  os : w'.os = w.os
  tape : w'.tape = w.tape
  output : w'.output = w.output
  size : w.heap.size ≤ w'.heap.size
  block : ∀ k, k < w.heap.size → ¬ M k → w'.heap[k]? = w.heap[k]?
theorem BelowM.refl (M : Nat → Prop) (w : World) : BelowM M w w := ⟨rfl, rfl, rfl, Nat.le_refl _, fun _ _ _ => rfl⟩
theorem BelowM.quiet {M : Nat → Prop} {a b c : World} (h : BelowM M a b) (k : Below b.heap.size b c) : BelowM M a c :=
  ⟨k.os.trans h.os, k.tape.trans h.tape, k.output.trans h.output, Nat.le_trans h.size k.size, fun i hi hm => (k.block i (Nat.lt_of_lt_of_le hi h.size)).trans (h.block i hi hm)⟩
theorem BelowM.trans {M M' : Nat → Prop} {a b c : World} (h : BelowM M a b) (k : BelowM M' b c) (hm : ∀ i, M' i → M i ∨ a.heap.size ≤ i) : BelowM M a c :=
  ⟨k.os.trans h.os, k.tape.trans h.tape, k.output.trans h.output, Nat.le_trans h.size k.size, fun i hi hn => (k.block i (Nat.lt_of_lt_of_le hi h.size) (fun e => by
    rcases hm i e with h | h
    · exact hn h
    · omega)).trans (h.block i hi hn)⟩
theorem BelowM.grown {M : Nat → Prop} {a w w' : World} {row : Option Nat} (h : BelowM M a w) (hg : w.grownBy w' row) (hr : ∀ k, row = some k → M k ∨ a.heap.size ≤ k) : BelowM M a w' :=
  ⟨hg.os.trans h.os, hg.tape.trans h.tape, hg.output.trans h.output, Nat.le_trans h.size hg.size, fun k hk hn => (hg.block k (Nat.lt_of_lt_of_le hk h.size) (fun e => by
    rcases hr k e.symm with h | h
    · exact hn h
    · omega)).trans (h.block k hk hn)⟩
theorem BelowM.below {w w' : World} {M : Nat → Prop} (h : BelowM M w w') (hm : ∀ k, ¬ M k) : Below w.heap.size w w' :=
  ⟨h.os, h.tape, h.output, h.size, fun k hk => h.block k hk (hm k)⟩
def watched : List String := ["internal/strconv.uint64pow10", "internal/bytealg.MaxLen", "strconv.ErrSyntax", "strconv.ErrRange"]
def goodVar (n : String) (cs : Array Value) : Prop :=
  if n = "internal/strconv.uint64pow10" then cs = ((List.range 20).map fun i => Value.int .u64 ((10 ^ i : Nat) : Int)).toArray
  else if n = "internal/bytealg.MaxLen" then ∃ m, cs[0]? = some (.int .i64 m)
  else ∃ ev, cs[0]? = some ev ∧ (ev = .nilIface ∨ ∃ te pe, ev = .iface te pe)
def Glb (P : Program) (w : World) (ok : Nat → Prop) : Prop := ∀ n g, n ∈ watched → P.globalNamed n = some g → ok g ∧ ∃ cs ty fr, w.heap[g]? = some (.cells cs ty fr) ∧ goodVar n cs
theorem Glb.mono {P : Program} {w w' : World} {ok ok' : Nat → Prop} (hk : ∀ b, ok b → b < w.heap.size → ok' b) (hh : ∀ b, ok b → b < w.heap.size → w'.heap[b]? = w.heap[b]?) (h : Glb P w ok) : Glb P w' ok' := fun n g hn hg => by
  obtain ⟨h1, cs, ty, fr, h2, h3⟩ := h n g hn hg
  have hl : g < w.heap.size := lt_of_heap h2
  exact ⟨hk g h1 hl, cs, ty, fr, (hh g h1 hl).trans h2, h3⟩
structure Ctx (P : Program) where
  w0 : World
  ok0 : Nat → Prop
  N : Nat
  M : Nat → Prop
  φ0 : Nat → Value
  small : N ≤ 1000000
  glb : Glb P w0 (fun b => ok0 b ∧ ¬ M b)
def Ctx.mine {P : Program} (C : Ctx P) (b : Nat) : Prop := C.M b ∨ C.w0.heap.size ≤ b
def okG {P : Program} (C : Ctx P) (φ : Nat → Value) (H : Nat → Option OB) (b : Nat) : Prop :=
  (C.ok0 b ∨ C.w0.heap.size ≤ b) ∧ ∀ h, (H h).isSome = true → ¬ Blk (φ h) b
structure GamW {P : Program} (C : Ctx P) (st : St) (φ : Nat → Value) (a : Act) (w : World) : Prop where
  size : a.tmps.size = C.N
  defers : a.defers = []
  below : BelowM C.M C.w0 w
  mine : ∀ h b, (st.H h).isSome = true → Blk (φ h) b → C.mine b
  keep : ∀ h, 1000000 ≤ h → (st.H h).isSome = true → φ h = C.φ0 h
  disj : ∀ h k b, h ≠ k → (st.H h).isSome = true → (st.H k).isSome = true → Blk (φ h) b → ¬ Blk (φ k) b
  own : ∀ h ob, st.H h = some ob → OwnOb φ st.H w (okG C φ st.H) (φ h) ob
  rep : ∀ t, RepV φ st.H w (okG C φ st.H) (st.env t) (a.tmps.getD t undef)
def Gam {P : Program} (C : Ctx P) (st : St) (a : Act) (w : World) : Prop := ∃ φ, GamW C st φ a w
theorem grown_of_below {w w' : World} (h : Below w.heap.size w w') (row : Option Nat) : w.grownBy w' row :=
  ⟨h.os, h.tape, h.output, h.size, fun k hk _ => h.block k hk⟩
theorem RepVs_iff {φ : Nat → Value} {H : Nat → Option OB} {w : World} {ok : Nat → Prop} : ∀ {cs : List AV} {vs : List Value}, RepVs φ H w ok cs vs ↔ All2 (RepV φ H w ok) cs vs
  | [], vs => by
    unfold RepVs
    constructor
    · rintro rfl; exact ⟨rfl, fun i x v hx _ => by simp at hx⟩
    · intro h; exact List.eq_nil_of_length_eq_zero (by simpa using h.1)
  | c :: cs, vs => by
    unfold RepVs
    constructor
    · rintro ⟨v, us, rfl, h1, h2⟩
      have h3 := RepVs_iff.1 h2
      refine ⟨by simp [h3.1], fun i x y hx hy => ?_⟩
      cases i with
      | zero => simp at hx hy; subst hx hy; exact h1
      | succ i => exact h3.2 i x y (by simpa using hx) (by simpa using hy)
    · intro h
      cases vs with
      | nil => have := h.1; simp at this
      | cons v us => exact ⟨v, us, rfl, h.2 0 c v rfl rfl, RepVs_iff.2 ⟨by simpa using h.1, fun i x y hx hy => h.2 (i + 1) x y (by simpa using hx) (by simpa using hy)⟩⟩
theorem RepV.agg {φ : Nat → Value} {H : Nat → Option OB} {w : World} {ok : Nat → Prop} {cs : List AV} {vs : List Value} (h : All2 (RepV φ H w ok) cs vs) : RepV φ H w ok (.agg cs) (.agg vs.toArray) := by
  unfold RepV; exact ⟨vs, rfl, RepVs_iff.2 h⟩
theorem RepV.tup {φ : Nat → Value} {H : Nat → Option OB} {w : World} {ok : Nat → Prop} {cs : List AV} {vs : List Value} (h : All2 (RepV φ H w ok) cs vs) : RepV φ H w ok (.tup cs) (.tuple vs.toArray) := by
  unfold RepV; exact ⟨vs, rfl, RepVs_iff.2 h⟩
mutual
theorem RepV.lift {φ φ' : Nat → Value} {H H' : Nat → Option OB} {w w' : World} {ok ok' : Nat → Prop} {f : AV → AV} {p : AV → Prop} (hpa : ∀ cs, p (.agg cs) → ∀ c ∈ cs, p c) (hpt : ∀ cs, p (.tup cs) → ∀ c ∈ cs, p c)
    (hfa : ∀ cs, f (.agg cs) = .agg (cs.map f)) (hft : ∀ cs, f (.tup cs) = .tup (cs.map f))
    (leaf : ∀ v x, leafV v = true → p v → RepV φ H w ok v x → RepV φ' H' w' ok' (f v) x) : ∀ (v : AV) (x : Value), p v → RepV φ H w ok v x → RepV φ' H' w' ok' (f v) x
  | .agg cs, x, hp, h => by
    unfold RepV at h
    obtain ⟨vs, rfl, h⟩ := h
    rw [hfa]; unfold RepV
    exact ⟨vs, rfl, RepVs.lift hpa hpt hfa hft leaf cs vs (hpa cs hp) h⟩
  | .tup cs, x, hp, h => by
    unfold RepV at h
    obtain ⟨vs, rfl, h⟩ := h
    rw [hft]; unfold RepV
    exact ⟨vs, rfl, RepVs.lift hpa hpt hfa hft leaf cs vs (hpt cs hp) h⟩
  | .s v, x, hp, h => leaf _ x rfl hp h
  | .nil, x, hp, h => leaf _ x rfl hp h
  | .lst _ _, x, hp, h => leaf _ x rfl hp h
  | .rp _, x, hp, h => leaf _ x rfl hp h
  | .fn _ _, x, hp, h => leaf _ x rfl hp h
  | .ptr _ _, x, hp, h => leaf _ x rfl hp h
  | .eptr _ _ _, x, hp, h => leaf _ x rfl hp h
  | .own _ _, x, hp, h => leaf _ x rfl hp h
  | .osl _ _ _, x, hp, h => leaf _ x rfl hp h
  | .clo _ _, x, hp, h => leaf _ x rfl hp h
  | .nst _ _, x, hp, h => leaf _ x rfl hp h
  | .nptr _ _, x, hp, h => leaf _ x rfl hp h
  | .inr _ _, x, hp, h => leaf _ x rfl hp h
  | .junk, x, hp, h => leaf _ x rfl hp h
theorem RepVs.lift {φ φ' : Nat → Value} {H H' : Nat → Option OB} {w w' : World} {ok ok' : Nat → Prop} {f : AV → AV} {p : AV → Prop} (hpa : ∀ cs, p (.agg cs) → ∀ c ∈ cs, p c) (hpt : ∀ cs, p (.tup cs) → ∀ c ∈ cs, p c)
    (hfa : ∀ cs, f (.agg cs) = .agg (cs.map f)) (hft : ∀ cs, f (.tup cs) = .tup (cs.map f))
    (leaf : ∀ v x, leafV v = true → p v → RepV φ H w ok v x → RepV φ' H' w' ok' (f v) x) : ∀ (cs : List AV) (vs : List Value), (∀ c ∈ cs, p c) → RepVs φ H w ok cs vs → RepVs φ' H' w' ok' (cs.map f) vs
  | [], vs, _, h => by unfold RepVs at h ⊢; exact h
  | c :: cs, vs, hp, h => by
    unfold RepVs at h
    obtain ⟨v, us, rfl, h1, h2⟩ := h
    rw [List.map_cons]; unfold RepVs
    exact ⟨v, us, rfl, RepV.lift hpa hpt hfa hft leaf c v (hp c (by simp)) h1, RepVs.lift hpa hpt hfa hft leaf cs us (fun c hc => hp c (by simp [hc])) h2⟩
end
theorem RepV.lift1 {φ φ' : Nat → Value} {H H' : Nat → Option OB} {w w' : World} {ok ok' : Nat → Prop} {p : AV → Prop} (hpa : ∀ cs, p (.agg cs) → ∀ c ∈ cs, p c) (hpt : ∀ cs, p (.tup cs) → ∀ c ∈ cs, p c)
    (leaf : ∀ v x, leafV v = true → p v → RepV φ H w ok v x → RepV φ' H' w' ok' v x) {v : AV} {x : Value} (hp : p v) (h : RepV φ H w ok v x) : RepV φ' H' w' ok' v x := 
  RepV.lift (f := fun v => v) hpa hpt (fun cs => by simp) (fun cs => by simp) leaf v x hp h
theorem RepV.mono {φ : Nat → Value} {H : Nat → Option OB} {w w' : World} {ok ok' : Nat → Prop} (hk : ∀ b, ok b → b < w.heap.size → ok' b) (hh : ∀ b, ok b → b < w.heap.size → w'.heap[b]? = w.heap[b]?)
    {v : AV} {x : Value} (h : RepV φ H w ok v x) : RepV φ H w' ok' v x := by
  refine RepV.lift1 (p := fun _ => True) (fun _ _ _ _ => trivial) (fun _ _ _ _ => trivial) (fun v x hl _ hr => ?_) trivial h
  cases hv : isRO v with
  | true => exact (RepV.ro hv).2 (((RepV.ro hv).1 hr).mono hk hh)
  | false => cases v <;> first | (simp [Ev.isRO] at hv; done) | (simp [leafV] at hl; done) | exact hr
theorem All2.mono {R R' : AV → Value → Prop} {xs : List AV} {vs : List Value} (h : All2 R xs vs) (hr : ∀ x v, R x v → R' x v) : All2 R' xs vs :=
  ⟨h.1, fun i x v hx hv => hr _ _ (h.2 i x v hx hv)⟩
theorem All2.get {R : AV → Value → Prop} {xs : List AV} {vs : List Value} (h : All2 R xs vs) {i : Nat} {x : AV} (hx : xs[i]? = some x) : ∃ v, vs[i]? = some v ∧ R x v := by
  have hi : i < xs.length := (List.getElem?_eq_some_iff.1 hx).1
  have hi' : i < vs.length := by rw [h.1]; exact hi
  exact ⟨vs[i], List.getElem?_eq_getElem hi', h.2 i x _ hx (List.getElem?_eq_getElem hi')⟩
theorem All2.drop {R : AV → Value → Prop} {xs : List AV} {vs : List Value} (h : All2 R xs vs) (n : Nat) : All2 R (xs.drop n) (vs.drop n) :=
  ⟨by simp [h.1], fun i x v hx hv => h.2 (n + i) x v (by simpa using hx) (by simpa using hv)⟩
theorem All2.take {R : AV → Value → Prop} {xs : List AV} {vs : List Value} (h : All2 R xs vs) (n : Nat) : All2 R (xs.take n) (vs.take n) := by
  refine ⟨by simp [h.1], fun i x v hx hv => ?_⟩
  rw [List.getElem?_take] at hx hv
  split at hx
  · rename_i hlt; rw [if_pos hlt] at hv; exact h.2 i x v hx hv
  · cases hx
theorem All2.reps {φ : Nat → Value} {H : Nat → Option OB} {w : World} {ok : Nat → Prop} {xs : List AV} {vs : List Value} (h : All2 (RepV φ H w ok) xs vs) (hr : xs.all isRO = true) : Reps w ok xs vs := by
  induction xs generalizing vs with
  | nil =>
    have : vs = [] := List.eq_nil_of_length_eq_zero (by simpa using h.1)
    subst this; exact .nil
  | cons x xs ih =>
    cases vs with
    | nil => simpa using h.1
    | cons v vs =>
      simp only [List.all_cons, Bool.and_eq_true] at hr
      refine .cons ((RepV.ro hr.1).1 (h.2 0 x v rfl rfl)) (ih ⟨by simpa using h.1, fun i y u hy hu => h.2 (i + 1) y u (by simpa using hy) (by simpa using hu)⟩ hr.2)
theorem All2.of_reps {φ : Nat → Value} {H : Nat → Option OB} {w : World} {ok : Nat → Prop} {xs : List AV} {vs : List Value} (h : Reps w ok xs vs) : All2 (RepV φ H w ok) xs vs := by
  refine ⟨h.length, fun i x v hx hv => ?_⟩
  obtain ⟨v', hv', hr⟩ := h.get hx
  rw [hv] at hv'
  cases hv'
  exact .of hr
theorem GamW.glb {P : Program} {C : Ctx P} {st : St} {φ : Nat → Value} {a : Act} {w : World} (g : GamW C st φ a w) : Glb P w (okG C φ st.H) :=
  C.glb.mono (fun b hb hl => ⟨.inl hb.1, fun h hs hb' => by
    rcases g.mine h b hs hb' with h1 | h1
    · exact hb.2 h1
    · omega⟩) (fun b hb hl => g.below.block b hl hb.2)
theorem GamW.quiet {P : Program} {C : Ctx P} {st : St} {φ : Nat → Value} {a : Act} {w w' : World} (g : GamW C st φ a w) (h : Below w.heap.size w w') : GamW C st φ a w' := by
  have hh : ∀ b, okG C φ st.H b → b < w.heap.size → w'.heap[b]? = w.heap[b]? := fun b _ hb => h.block b hb
  refine ⟨g.size, g.defers, g.below.quiet h, g.mine, g.keep, g.disj, fun k ob hk => ?_, fun t => (g.rep t).mono (fun _ h _ => h) hh⟩
  have ho := g.own k ob hk
  cases ob with
  | row ty sz es =>
    obtain ⟨xs, h1, h2, h3, h4⟩ := ho
    exact ⟨xs, h1.kept (grown_of_below h none) (fun b hb => by cases hb), h2.mono (fun _ h _ => h) hh, h3, h4⟩
  | box ty cs =>
    obtain ⟨gb, arr, h1, h3, h4, h5⟩ := ho
    exact ⟨gb, arr, h1, (h.block gb (lt_of_heap h3)).trans h3, h4, h5.mono fun _ _ h => h.mono (fun _ h _ => h) hh⟩
  | nest ty tyI szI rows => exact nest_kept ho (grown_of_below h none) (fun b hb => by cases hb) (fun _ h _ => h) hh
def St.put (st : St) (dst : Option Tmp) (v : AV) : St :=
  match dst with
  | some d => { st with env := upd st.env d v }
  | none => st
theorem getD_set (a : Array Value) (d t : Nat) (x : Value) (hd : d < a.size) : (a.setIfInBounds d x).getD t undef = if t = d then x else a.getD t undef := by
  by_cases h : t = d
  · subst h; simp [hd]
  · simp only [h, if_false]
    simp only [Array.getD_eq_getD_getElem?]
    rw [Array.getElem?_setIfInBounds_ne (Ne.symm h)]
theorem GamW.put {P : Program} {C : Ctx P} {st : St} {φ : Nat → Value} {a : Act} {w : World} (g : GamW C st φ a w) {v : AV} {x : Value} (hr : RepV φ st.H w (okG C φ st.H) v x)
    (dst : Option Tmp) (hd : ∀ d, dst = some d → d < C.N) : GamW C (st.put dst v) φ (a.put dst x) w := by
  cases dst with
  | none => exact g
  | some d =>
    have hd' := hd d rfl
    refine ⟨by simp [Act.put, g.size], g.defers, g.below, g.mine, g.keep, g.disj, g.own, fun t => ?_⟩
    simp only [Act.put, St.put]
    rw [getD_set _ _ _ _ (by rw [g.size]; exact hd')]
    by_cases h : t = d
    · subst h; rw [upd_same, if_pos rfl]; exact hr
    · rw [upd_ne _ _ h, if_neg h]; exact g.rep t
def cellAV : Value → AV
  | .slice none 0 0 => .nil
  | v => .s v
def constAV : Value → AV
  | .slice none 0 0 => .nil
  | .agg cs => if cs.toList.all Value.oneCell' then .agg (cs.toList.map cellAV) else .junk
  | .tuple cs => if cs.toList.all Value.oneCell' then .tup (cs.toList.map cellAV) else .junk
  | v => .s v
theorem Rep.cell {w : World} {ok : Nat → Prop} (v : Value) (h : v.oneCell' = true) : Rep w ok (cellAV v) v := by
  unfold cellAV
  split
  · exact .nil
  · exact .s h
theorem Reps.cells {w : World} {ok : Nat → Prop} (vs : List Value) (h : vs.all Value.oneCell' = true) : Reps w ok (vs.map cellAV) vs := by
  induction vs with
  | nil => exact .nil
  | cons v vs ih => simp only [List.all_cons, Bool.and_eq_true] at h; exact .cons (.cell v h.1) (ih h.2)
theorem RepV.const {φ : Nat → Value} {H : Nat → Option OB} {w : World} {ok : Nat → Prop} (v : Value) : RepV φ H w ok (constAV v) v := by
  unfold constAV
  split
  · exact RepV.of .nil
  · split
    · rename_i cs hc; exact RepV.of (by simpa using Rep.agg (vs := cs.toList) (Reps.cells (w := w) (ok := ok) _ hc))
    · trivial
  · split
    · rename_i cs hc; exact RepV.of (by simpa using Rep.tup (vs := cs.toList) (Reps.cells (w := w) (ok := ok) _ hc))
    · trivial
  · rename_i h1 h2 h3
    refine RepV.of (.s ?_)
    cases v <;> first | rfl | exact (h2 _ rfl).elim | exact (h3 _ rfl).elim
def St.ev (st : St) : Operand → AV
  | .tmp t => st.env t
  | .const v => constAV v
  | .func f => .fn f []
  | .global _ => .junk
theorem GamW.ev {P : Program} {C : Ctx P} {st : St} {φ : Nat → Value} {a : Act} {w : World} (g : GamW C st φ a w) (x : Operand) : RepV φ st.H w (okG C φ st.H) (st.ev x) (a.eval x) := by
  cases x with
  | tmp t => exact g.rep t
  | const v => exact RepV.const v
  | func f => exact RepV.of (Rep.fn (f := f) (Reps.nil (w := w) (ok := okG C φ st.H)))
  | global n => trivial
def yieldedA (ops : Array Oper) (st : St) (j : Nat) : Option Bool :=
  match (ops[j]?).bind (·.dst) with
  | some d => match st.env d with
    | .s (.bool b) => some b
    | _ => none
  | none => none
theorem GamW.yielded {P : Program} {C : Ctx P} {st : St} {φ : Nat → Value} {a : Act} {w : World} (g : GamW C st φ a w) {ops : Array Oper} {j : Nat} {b : Bool} (h : yieldedA ops st j = some b) : yielded ops a.tmps j = some b := by
  unfold yieldedA at h
  cases hd : (ops[j]?).bind (·.dst) with
  | none => simp [hd] at h
  | some d =>
    simp only [hd] at h
    split at h
    · rename_i b' hb
      cases h
      have hr := g.rep d
      rw [hb] at hr
      have hr' : a.tmps.getD d undef = .bool b := by
        have h2 : Rep w (okG C φ st.H) (.s (.bool b)) (a.tmps.getD d undef) := hr
        generalize a.tmps.getD d undef = z at h2
        cases h2; rfl
      simp only [Array.getD_eq_getD_getElem?] at hr'
      unfold Go.yielded
      rw [hd]
      simp only [Option.bind_some]
      cases ht : a.tmps[d]? with
      | none => rw [ht] at hr'; simp [undef] at hr'
      | some x => rw [ht] at hr'; simp at hr'; subst hr'; rfl
    · cases h
end Go.Proofs.Ytdnndlalflahhaa.Ev
