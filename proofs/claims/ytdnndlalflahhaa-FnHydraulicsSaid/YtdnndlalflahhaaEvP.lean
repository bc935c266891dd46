/- Calls that write: functions to which objects are handed over, and which answer with new ones. -/
import Derived.Test.YtdnndlalflahhaaEvI
set_option linter.unusedVariables false
set_option linter.unusedSimpArgs false
namespace Go.Proofs.Ytdnndlalflahhaa.Ev
open Go Go.RowKit
def hof : List (Nat × OB) → Nat → Option OB
  | [] => fun _ => none
  | (k, o) :: l => upd (hof l) k (some o)
theorem hof_mem : ∀ {l : List (Nat × OB)} {k : Nat} {o : OB}, hof l k = some o → (k, o) ∈ l
  | [], k, o, h => by simp [hof] at h
  | (j, p) :: l, k, o, h => by
    simp only [hof] at h
    by_cases e : k = j
    · subst e; rw [upd_same] at h; cases h; simp
    · rw [upd_ne _ _ e] at h; exact List.mem_cons_of_mem _ (hof_mem h)
theorem hof_some : ∀ {l : List (Nat × OB)} {k : Nat} {o : OB}, (k, o) ∈ l → (hof l k).isSome = true
  | (j, p) :: l, k, o, h => by
    simp only [hof]
    by_cases e : k = j
    · subst e; rw [upd_same]; rfl
    · rw [upd_ne _ _ e]
      rcases List.mem_cons.1 h with h | h
      · cases h; exact absurd rfl e
      · exact hof_some h
def okH (ok : Nat → Prop) (φ : Nat → Value) (H : Nat → Option OB) (b : Nat) : Prop := ok b ∧ ∀ h, (H h).isSome = true → ¬ Blk (φ h) b
structure Held (ok : Nat → Prop) (φ : Nat → Value) (H : Nat → Option OB) (w : World) : Prop where
  disj : ∀ h k b, h ≠ k → (H h).isSome = true → (H k).isSome = true → Blk (φ h) b → ¬ Blk (φ k) b
  own : ∀ h ob, H h = some ob → OwnOb φ H w (okH ok φ H) (φ h) ob
def DenXR (P : Program) (f : Nat) (pre : List (Nat × OB)) (args : List AV) {τ : Type} (R : τ → Prop) (post : τ → List (Nat × OB)) (r : τ → AV) : Prop :=
  (∃ fn, P.funcs[f]? = some fn ∧ (fn.name == "runtime.NumGoroutine") = false ∧ fn.body.isSome = true) ∧
  ∀ (w : World) (ok : Nat → Prop) (φ : Nat → Value) (vs : List Value), Glb P w (okH ok φ (hof pre)) → Held ok φ (hof pre) w → (∀ h b, (hof pre h).isSome = true → Blk (φ h) b → ¬ w.heap.size ≤ b) → All2 (RepV φ (hof pre) w (okH ok φ (hof pre))) args vs →
    Calls P f vs.toArray w fun e w' => ∃ x v φ', R x ∧ e = .returned v ∧
      BelowM (fun b => ∃ h, (hof pre h).isSome = true ∧ Blk (φ h) b) w w' ∧
      (∀ h, (hof pre h).isSome = true → (hof (post x) h).isSome = true → φ' h = φ h) ∧
      (∀ h b, (hof (post x) h).isSome = true → Blk (φ' h) b → w.heap.size ≤ b ∨ ∃ k, (hof pre k).isSome = true ∧ Blk (φ k) b) ∧
      Held (fun b => ok b ∨ w.heap.size ≤ b) φ' (hof (post x)) w' ∧
      RepV φ' (hof (post x)) w' (okH (fun b => ok b ∨ w.heap.size ≤ b) φ' (hof (post x))) (r x) v
def DenX (P : Program) (f : Nat) (pre : List (Nat × OB)) (args : List AV) (post : List (Nat × OB)) (r : AV) : Prop :=
  DenXR P f pre args (τ := Unit) (fun _ => True) (fun _ => post) (fun _ => r)
/-! ### Other names -/
mutual
def ren (σ : Nat → Nat) : AV → AV
  | .ptr h o => .ptr (σ h) o
  | .eptr h i o => .eptr (σ h) i o
  | .own h n => .own (σ h) n
  | .osl h i n => .osl (σ h) i n
  | .clo f hs => .clo f (hs.map σ)
  | .nst h n => .nst (σ h) n
  | .nptr h i => .nptr (σ h) i
  | .inr h i => .inr (σ h) i
  | .agg cs => .agg (rens σ cs)
  | .tup cs => .tup (rens σ cs)
  | .s v => .s v
  | .nil => .nil
  | .lst sz es => .lst sz es
  | .rp cs => .rp cs
  | .fn f cs => .fn f cs
  | .junk => .junk
def rens (σ : Nat → Nat) : List AV → List AV
  | [] => []
  | c :: cs => ren σ c :: rens σ cs
end
theorem rens_map (σ : Nat → Nat) : ∀ cs : List AV, rens σ cs = cs.map (ren σ)
  | [] => rfl
  | c :: cs => by simp only [rens, List.map_cons, rens_map σ cs]
def renO (σ : Nat → Nat) : OB → OB
  | .row ty sz es => .row ty sz es
  | .box ty cs => .box ty (rens σ cs)
  | .nest ty tyI szI rows => .nest ty tyI szI rows
mutual
def pureV : AV → Bool
  | .lst _ _ => false
  | .rp _ => false
  | .fn _ _ => false
  | .agg cs => pureVs cs
  | .tup cs => pureVs cs
  | .s _ => true
  | .nil => true
  | .ptr _ _ => true
  | .eptr _ _ _ => true
  | .own _ _ => true
  | .osl _ _ _ => true
  | .clo _ _ => true
  | .nst _ _ => true
  | .nptr _ _ => true
  | .inr _ _ => true
  | .junk => true
def pureVs : List AV → Bool
  | [] => true
  | c :: cs => pureV c && pureVs cs
end
theorem pureVs_all : ∀ cs : List AV, pureVs cs = cs.all pureV
  | [] => rfl
  | c :: cs => by simp only [pureVs, List.all_cons, pureVs_all cs]
def pureO : OB → Prop
  | .row _ _ es => (flats es).all noMem = true
  | .box _ cs => pureVs cs = true
  | .nest _ _ _ rows => ∀ r ∈ rows, (flats r).all noMem = true
mutual
def refsA : AV → List Nat
  | .ptr h _ => [h]
  | .eptr h _ _ => [h]
  | .own h _ => [h]
  | .osl h _ _ => [h]
  | .clo _ hs => hs
  | .nst h _ => [h]
  | .nptr h _ => [h]
  | .inr h _ => [h]
  | .agg cs => refsAs cs
  | .tup cs => refsAs cs
  | .s _ => []
  | .nil => []
  | .lst _ _ => []
  | .rp _ => []
  | .fn _ _ => []
  | .junk => []
def refsAs : List AV → List Nat
  | [] => []
  | c :: cs => refsA c ++ refsAs cs
end
theorem mem_refsAs {k : Nat} : ∀ {cs : List AV}, k ∈ refsAs cs ↔ ∃ c ∈ cs, k ∈ refsA c
  | [] => by simp [refsAs]
  | c :: cs => by simp [refsAs, mem_refsAs (cs := cs)]
def refsO : OB → List Nat
  | .row _ _ _ => []
  | .box _ cs => refsAs cs
  | .nest _ _ _ _ => []
def sameShape : OB → OB → Prop
  | .row ty sz es, .row ty' sz' es' => ty = ty' ∧ sz = sz' ∧ es.length ≤ es'.length
  | .box ty _, .box ty' _ => ty = ty'
  | .nest ty tyI szI rows, .nest ty' tyI' szI' rows' => ty = ty' ∧ tyI = tyI' ∧ szI = szI' ∧ rows.length = rows'.length
  | _, _ => False
section
variable {P : Program} {C : Ctx P} {st : St} {φ : Nat → Value} {a : Act} {w : World}
theorem ren_rep {φ1 φ2 : Nat → Value} {H1 H2 : Nat → Option OB} {ok1 ok2 : Nat → Prop} {σ : Nat → Nat} (hH : ∀ k ob, H1 k = some ob → H2 (σ k) = some (renO σ ob)) (hφ : ∀ k, (H1 k).isSome = true → φ2 (σ k) = φ1 k)
    {v : AV} {x : Value} (hp : (∀ b, ok1 b → ok2 b) ∨ pureV v = true) (h : RepV φ1 H1 w ok1 v x) : RepV φ2 H2 w ok2 (ren σ v) x := by
  refine RepV.lift (f := ren σ) (p := fun v => (∀ b, ok1 b → ok2 b) ∨ pureV v = true) ?_ ?_ (fun cs => by simp only [ren, rens_map]) (fun cs => by simp only [ren, rens_map]) (fun v x hl hp h => ?_) v x hp h
  · intro cs hp c hc
    rcases hp with hp | hp
    · exact .inl hp
    · simp only [pureV, pureVs_all, List.all_eq_true] at hp
      exact .inr (hp c hc)
  · intro cs hp c hc
    rcases hp with hp | hp
    · exact .inl hp
    · simp only [pureV, pureVs_all, List.all_eq_true] at hp
      exact .inr (hp c hc)
  cases v with
  | ptr k o =>
    obtain ⟨ty, cs, g, h1, h2, r⟩ := h
    exact ⟨ty, rens σ cs, g, hH _ _ h1, by rw [hφ k (by rw [h1]; rfl)]; exact h2, r⟩
  | eptr k i o =>
    obtain ⟨ty, sz, es, g, m, c, h1, h2, r⟩ := h
    exact ⟨ty, sz, es, g, m, c, hH _ _ h1, by rw [hφ k (by rw [h1]; rfl)]; exact h2, r⟩
  | own k n =>
    obtain ⟨ty, sz, es, A, m, c, h1, h2, r⟩ := h
    exact ⟨ty, sz, es, A, m, c, hH _ _ h1, by rw [hφ k (by rw [h1]; rfl)]; exact h2, r⟩
  | osl k i n =>
    obtain ⟨ty, sz, es, A, m, c, A', c', h1, h2, r⟩ := h
    exact ⟨ty, sz, es, A, m, c, A', c', hH _ _ h1, by rw [hφ k (by rw [h1]; rfl)]; exact h2, r⟩
  | nst k n =>
    obtain ⟨ty, tyI, szI, rows, fs, h1, r⟩ := h
    exact ⟨ty, tyI, szI, rows, fs, hH _ _ h1, by rw [hφ k (by rw [h1]; rfl)]; exact r⟩
  | nptr k i =>
    obtain ⟨ty, tyI, szI, rows, g, m, c, fs, h1, h2, r⟩ := h
    exact ⟨ty, tyI, szI, rows, g, m, c, fs, hH _ _ h1, by rw [hφ k (by rw [h1]; rfl)]; exact h2, r⟩
  | inr k i =>
    obtain ⟨ty, tyI, szI, rows, fo, fs, h1, h2, r⟩ := h
    exact ⟨ty, tyI, szI, rows, fo, fs, hH _ _ h1, by rw [hφ k (by rw [h1]; rfl)]; exact h2, r⟩
  | clo f hs =>
    obtain ⟨e, hall⟩ := h
    refine ⟨?_, fun k hk => ?_⟩
    · rw [e, List.map_map]
      congr 2
      apply List.map_congr_left
      intro k hk
      obtain ⟨ty, cs, h1⟩ := hall k hk
      exact (hφ k (by rw [h1]; rfl)).symm
    · obtain ⟨j, hj, rfl⟩ := List.mem_map.1 hk
      obtain ⟨ty, cs, h1⟩ := hall j hj
      exact ⟨ty, rens σ cs, hH _ _ h1⟩
  | junk => trivial
  | agg => simp [leafV] at hl
  | tup => simp [leafV] at hl
  | s v => exact (RepV.ro rfl).2 (((RepV.ro rfl).1 h).noMem rfl)
  | nil => exact (RepV.ro rfl).2 (((RepV.ro rfl).1 h).noMem rfl)
  | lst sz es =>
    rcases hp with hp | hp
    · exact (RepV.ro rfl).2 (((RepV.ro rfl).1 h).weak hp)
    · simp [pureV] at hp
  | rp cs =>
    rcases hp with hp | hp
    · exact (RepV.ro rfl).2 (((RepV.ro rfl).1 h).weak hp)
    · simp [pureV] at hp
  | fn f cs =>
    rcases hp with hp | hp
    · exact (RepV.ro rfl).2 (((RepV.ro rfl).1 h).weak hp)
    · simp [pureV] at hp
theorem renO_row {σ : Nat → Nat} {ob : OB} {ty sz : Nat} {es : List AV} (h : renO σ ob = .row ty sz es) : ob = .row ty sz es := by
  cases ob with
  | row => exact h
  | box => cases h
  | nest => cases h
theorem renO_box {σ : Nat → Nat} {ob : OB} {ty : Nat} {cs : List AV} (h : renO σ ob = .box ty cs) : ∃ cs', ob = .box ty cs' := by
  cases ob with
  | row => cases h
  | nest => cases h
  | box ty' cs' => simp only [renO, OB.box.injEq] at h; exact ⟨cs', by rw [h.1]⟩
theorem renO_nest {σ : Nat → Nat} {ob : OB} {ty tyI szI : Nat} {rows : List (List AV)} (h : renO σ ob = .nest ty tyI szI rows) : ob = .nest ty tyI szI rows := by
  cases ob with
  | row => cases h
  | box => cases h
  | nest => exact h
mutual
theorem unren_rep {φ1 φ2 : Nat → Value} {H1 H2 : Nat → Option OB} {ok1 ok2 : Nat → Prop} {σ : Nat → Nat} (hH : ∀ k ob, H1 k = some ob → H2 (σ k) = some (renO σ ob)) (hφ : ∀ k, (H1 k).isSome = true → φ2 (σ k) = φ1 k) (hok : ∀ b, ok2 b → ok1 b) :
    ∀ (v : AV) (x : Value), (∀ k ∈ refsA v, (H1 k).isSome = true) → RepV φ2 H2 w ok2 (ren σ v) x → RepV φ1 H1 w ok1 v x
  | .ptr k o, x, hr, h => by
    obtain ⟨ob, hob⟩ := Option.isSome_iff_exists.1 (hr k (by simp [refsA]))
    obtain ⟨ty, cs, g, h1, h2, r⟩ := h
    rw [hH k ob hob] at h1
    obtain ⟨cs', rfl⟩ := renO_box (Option.some.inj h1)
    exact ⟨ty, cs', g, hob, by rw [← hφ k (by rw [hob]; rfl)]; exact h2, r⟩
  | .eptr k i o, x, hr, h => by
    obtain ⟨ob, hob⟩ := Option.isSome_iff_exists.1 (hr k (by simp [refsA]))
    obtain ⟨ty, sz, es, g, m, c, h1, h2, r⟩ := h
    rw [hH k ob hob] at h1
    obtain rfl := renO_row (Option.some.inj h1)
    exact ⟨ty, sz, es, g, m, c, hob, by rw [← hφ k (by rw [hob]; rfl)]; exact h2, r⟩
  | .own k n, x, hr, h => by
    obtain ⟨ob, hob⟩ := Option.isSome_iff_exists.1 (hr k (by simp [refsA]))
    obtain ⟨ty, sz, es, A, m, c, h1, h2, r⟩ := h
    rw [hH k ob hob] at h1
    obtain rfl := renO_row (Option.some.inj h1)
    exact ⟨ty, sz, es, A, m, c, hob, by rw [← hφ k (by rw [hob]; rfl)]; exact h2, r⟩
  | .osl k i n, x, hr, h => by
    obtain ⟨ob, hob⟩ := Option.isSome_iff_exists.1 (hr k (by simp [refsA]))
    obtain ⟨ty, sz, es, A, m, c, A', c', h1, h2, r⟩ := h
    rw [hH k ob hob] at h1
    obtain rfl := renO_row (Option.some.inj h1)
    exact ⟨ty, sz, es, A, m, c, A', c', hob, by rw [← hφ k (by rw [hob]; rfl)]; exact h2, r⟩
  | .nst k n, x, hr, h => by
    obtain ⟨ob, hob⟩ := Option.isSome_iff_exists.1 (hr k (by simp [refsA]))
    obtain ⟨ty, tyI, szI, rows, fs, h1, r⟩ := h
    rw [hH k ob hob] at h1
    obtain rfl := renO_nest (Option.some.inj h1)
    exact ⟨ty, tyI, szI, rows, fs, hob, by rw [← hφ k (by rw [hob]; rfl)]; exact r⟩
  | .nptr k i, x, hr, h => by
    obtain ⟨ob, hob⟩ := Option.isSome_iff_exists.1 (hr k (by simp [refsA]))
    obtain ⟨ty, tyI, szI, rows, g, m, c, fs, h1, h2, r⟩ := h
    rw [hH k ob hob] at h1
    obtain rfl := renO_nest (Option.some.inj h1)
    exact ⟨ty, tyI, szI, rows, g, m, c, fs, hob, by rw [← hφ k (by rw [hob]; rfl)]; exact h2, r⟩
  | .inr k i, x, hr, h => by
    obtain ⟨ob, hob⟩ := Option.isSome_iff_exists.1 (hr k (by simp [refsA]))
    obtain ⟨ty, tyI, szI, rows, fo, fs, h1, h2, r⟩ := h
    rw [hH k ob hob] at h1
    obtain rfl := renO_nest (Option.some.inj h1)
    exact ⟨ty, tyI, szI, rows, fo, fs, hob, by rw [← hφ k (by rw [hob]; rfl)]; exact h2, r⟩
  | .clo f hs, x, hr, h => by
    obtain ⟨e, hall⟩ := h
    refine ⟨?_, fun k hk => ?_⟩
    · rw [e, List.map_map]
      congr 2
      apply List.map_congr_left
      intro k hk
      exact hφ k (hr k (by simpa [refsA] using hk))
    · obtain ⟨ob, hob⟩ := Option.isSome_iff_exists.1 (hr k (by simpa [refsA] using hk))
      obtain ⟨ty, cs, h1⟩ := hall (σ k) (List.mem_map_of_mem hk)
      rw [hH k ob hob] at h1
      obtain ⟨cs', rfl⟩ := renO_box (Option.some.inj h1)
      exact ⟨ty, cs', hob⟩
  | .agg cs, x, hr, h => by
    unfold ren RepV at h
    obtain ⟨vs, rfl, h⟩ := h
    unfold RepV
    exact ⟨vs, rfl, unrens_rep hH hφ hok cs vs (fun k hk => hr k (by simpa [refsA] using hk)) h⟩
  | .tup cs, x, hr, h => by
    unfold ren RepV at h
    obtain ⟨vs, rfl, h⟩ := h
    unfold RepV
    exact ⟨vs, rfl, unrens_rep hH hφ hok cs vs (fun k hk => hr k (by simpa [refsA] using hk)) h⟩
  | .s v, x, hr, h => (RepV.ro rfl).2 (((RepV.ro (v := .s v) rfl).1 h).weak hok)
  | .nil, x, hr, h => (RepV.ro rfl).2 (((RepV.ro (v := .nil) rfl).1 h).weak hok)
  | .lst sz es, x, hr, h => (RepV.ro rfl).2 (((RepV.ro (v := .lst sz es) rfl).1 h).weak hok)
  | .rp cs, x, hr, h => (RepV.ro rfl).2 (((RepV.ro (v := .rp cs) rfl).1 h).weak hok)
  | .fn f cs, x, hr, h => (RepV.ro rfl).2 (((RepV.ro (v := .fn f cs) rfl).1 h).weak hok)
  | .junk, x, hr, h => trivial
theorem unrens_rep {φ1 φ2 : Nat → Value} {H1 H2 : Nat → Option OB} {ok1 ok2 : Nat → Prop} {σ : Nat → Nat} (hH : ∀ k ob, H1 k = some ob → H2 (σ k) = some (renO σ ob)) (hφ : ∀ k, (H1 k).isSome = true → φ2 (σ k) = φ1 k) (hok : ∀ b, ok2 b → ok1 b) :
    ∀ (cs : List AV) (vs : List Value), (∀ k ∈ refsAs cs, (H1 k).isSome = true) → RepVs φ2 H2 w ok2 (rens σ cs) vs → RepVs φ1 H1 w ok1 cs vs
  | [], vs, hr, h => by unfold rens RepVs at h; unfold RepVs; exact h
  | c :: cs, vs, hr, h => by
    unfold rens RepVs at h
    obtain ⟨v, us, rfl, h1, h2⟩ := h
    unfold RepVs
    exact ⟨v, us, rfl, unren_rep hH hφ hok c v (fun k hk => hr k (by simp [refsAs, hk])) h1, unrens_rep hH hφ hok cs us (fun k hk => hr k (by simp [refsAs, hk])) h2⟩
end
/-! ### The call -/
def calleeX : AV → Option (Nat × List AV)
  | .fn f caps => some (f, caps)
  | .clo f hs => some (f, hs.map fun h => .ptr h 0)
  | _ => none
def dropL (H : Nat → Option OB) (pass : List Nat) : Nat → Option OB := fun k => if pass.contains k then none else H k
def passes (pass : List Nat) (v : AV) : Bool := (refsA v).all fun k => pass.contains k
def passOf (H : Nat → Option OB) (pass : List Nat) (v : AV) : Option AV := if passes pass v = true then some v else roOf (dropL H pass) 4 v
def updAll (H : Nat → Option OB) (σ : Nat → Nat) : List (Nat × OB) → Nat → Option OB
  | [] => H
  | (k, o) :: l => upd (updAll H σ l) (σ k) (some (renO σ o))
theorem updAll_same {H : Nat → Option OB} {σ : Nat → Nat} : ∀ {l : List (Nat × OB)} {k : Nat} {o : OB}, (l.map fun p => σ p.1).Nodup → (k, o) ∈ l → updAll H σ l (σ k) = some (renO σ o)
  | (j, p) :: l, k, o, hn, h => by
    simp only [List.map_cons, List.nodup_cons] at hn
    simp only [updAll]
    rcases List.mem_cons.1 h with h | h
    · cases h; rw [upd_same]
    · have : σ k ≠ σ j := fun e => hn.1 (List.mem_map.2 ⟨_, h, e⟩)
      rw [upd_ne _ _ this]; exact updAll_same hn.2 h
theorem updAll_other {H : Nat → Option OB} {σ : Nat → Nat} : ∀ {l : List (Nat × OB)} {k : Nat}, (∀ p ∈ l, σ p.1 ≠ k) → updAll H σ l k = H k
  | [], k, h => rfl
  | (j, p) :: l, k, h => by
    simp only [updAll]
    rw [upd_ne _ _ (fun e => h (j, p) (by simp) e.symm)]
    exact updAll_other (fun q hq => h q (by simp [hq]))
structure CallPre (st : St) (σ : Nat → Nat) (pre : List (Nat × OB)) (as : List AV) : Prop where
  pre1 : ∀ p ∈ pre, st.H (σ p.1) = some (renO σ p.2)
  nodup : (pre.map fun p => σ p.1).Nodup
  refs : ∀ k ∈ refsAs as, ∃ q ∈ pre, q.1 = k
  refsO : ∀ p ∈ pre, ∀ k ∈ refsO p.2, ∃ q ∈ pre, q.1 = k
structure CallX (st : St) (σ : Nat → Nat) (pre post : List (Nat × OB)) (conv : Bool) (r : AV) : Prop where
  shape : ∀ p ∈ pre, ∃ q ∈ post, q.1 = p.1 ∧ sameShape p.2 q.2
  fresh : ∀ p ∈ post, (∃ q ∈ pre, q.1 = p.1) ∨ (st.H (σ p.1) = none ∧ σ p.1 < 1000000)
  nodup : (post.map fun p => σ p.1).Nodup
  pure : conv = true → pureV r = true ∧ ∀ p ∈ post, pureO p.2
set_option maxHeartbeats 4000000 in
theorem callXR_sound (g : GamW C st φ a w) {f : Operand} {args : Array Operand} {ty : Array TypeId} {o : Oper} (ho : o.op = .call { callee := .value f, args := args, argTypes := ty }) {gf : Nat} {caps as : List AV} {σ : Nat → Nat} {pre : List (Nat × OB)} {τ : Type} {R : τ → Prop} {post : τ → List (Nat × OB)} {r : τ → AV} {conv : Bool}
    (hc : calleeX (st.ev f) = some (gf, caps)) (ha : optAll (passOf st.H (pre.map fun p => σ p.1)) (args.toList.map st.ev ++ caps) = some (rens σ as))
    (hconv : conv = true ∨ (args.toList.map st.ev ++ caps).all (passes (pre.map fun p => σ p.1)) = true)
    (hd : DenXR P gf pre as R post r) (hp : CallPre st σ pre as) (hxx : ∀ x, R x → CallX st σ pre (post x) conv (r x)) {next : Act → World → Prop} {Q : Exit → Act → World → Prop} (hN : ∀ d, o.dst = some d → d < C.N)
    (hn : ∀ x, R x → ∀ φ' a' w', GamW C (St.put { env := st.env, H := updAll st.H σ (post x) } o.dst (ren σ (r x))) φ' a' w' → next a' w') : o.wp P a w next Q := by
  obtain ⟨⟨fn, hfn, hname, hbody⟩, hden⟩ := hd
  let pass := pre.map fun p => σ p.1
  have hp1 := hp.pre1
  -- the callee's value
  have hcal : ∃ cv : List Value, a.eval f = .func (.func gf) #[] cv.toArray ∧ All2 (RepV φ st.H w (okG C φ st.H)) caps cv := by
    have hv := g.ev f
    cases hf : st.ev f <;> rw [hf] at hc <;> simp only [calleeX, reduceCtorEq, Option.some.injEq, Prod.mk.injEq] at hc
    · obtain ⟨rfl, rfl⟩ := hc
      rw [hf] at hv
      have h2 : Rep w (okG C φ st.H) (.fn _ _) (a.eval f) := hv
      generalize hz : a.eval f = z at h2
      cases h2 with
      | fn h3 => exact ⟨_, rfl, .of_reps h3⟩
    · obtain ⟨rfl, rfl⟩ := hc
      rename_i hs
      rw [hf] at hv
      obtain ⟨e, hall⟩ := hv
      refine ⟨hs.map φ, e, by simp, fun i x v hx hv => ?_⟩
      rw [List.getElem?_map] at hx hv
      cases hi : hs[i]? with
      | none => rw [hi] at hx; cases hx
      | some h =>
        rw [hi] at hx hv
        cases hx; cases hv
        obtain ⟨ty, cs, hH⟩ := hall h (List.mem_of_getElem? hi)
        obtain ⟨gb, arr, hφ, -⟩ := g.own _ _ hH
        exact ⟨ty, cs, gb, hH, hφ, hφ⟩
  obtain ⟨cv, hfv, hcv⟩ := hcal
  have hall : All2 (RepV φ st.H w (okG C φ st.H)) (args.toList.map st.ev ++ caps) (args.toList.map a.eval ++ cv) := (args_rep g args.toList).append hcv
  -- the handed objects
  have alive : ∀ k, k ∈ pass → (st.H k).isSome = true := by
    intro k hk
    obtain ⟨p, hp, rfl⟩ := List.mem_map.1 hk
    rw [hp1 p hp]; rfl
  let okX : Nat → Prop := fun b => if conv = true then okF C b ∧ ∀ k ∈ pass, ¬ Blk (φ k) b else okG C φ st.H b
  have okGX : ∀ b, okG C φ st.H b → okX b := by
    intro b hb
    simp only [okX]
    split
    · exact ⟨.inl hb.1, fun k hk => hb.2 k (alive k hk)⟩
    · exact hb
  have okXp : ∀ b, okX b → ∀ k ∈ pass, ¬ Blk (φ k) b := by
    intro b hb k hk
    simp only [okX] at hb
    split at hb
    · exact hb.2 k hk
    · exact hb.2 k (alive k hk)
  let φ0 : Nat → Value := fun k => φ (σ k)
  have injL : ∀ (l : List (Nat × OB)), (l.map fun p => σ p.1).Nodup → ∀ p ∈ l, ∀ q ∈ l, σ p.1 = σ q.1 → p = q := by
    intro l
    induction l with
    | nil => intro _ p h; cases h
    | cons x l ih =>
      intro hn p hp q hq e
      simp only [List.map_cons, List.nodup_cons] at hn
      rcases List.mem_cons.1 hp with h1 | h1 <;> rcases List.mem_cons.1 hq with h2 | h2
      · rw [h1, h2]
      · exact absurd (List.mem_map.2 ⟨q, h2, by rw [← e, h1]⟩) hn.1
      · exact absurd (List.mem_map.2 ⟨p, h1, by rw [e, h2]⟩) hn.1
      · exact ih hn.2 p h1 q h2 e
  have preH : ∀ k ob, hof pre k = some ob → st.H (σ k) = some (renO σ ob) := fun k ob h => hp1 _ (hof_mem h)
  have preP : ∀ k, (hof pre k).isSome = true → σ k ∈ pass := by
    intro k hk
    obtain ⟨ob, hob⟩ := Option.isSome_iff_exists.1 hk
    exact List.mem_map.2 ⟨_, hof_mem hob, rfl⟩
  have sinj : ∀ i j, (hof pre i).isSome = true → (hof pre j).isSome = true → σ i = σ j → i = j := by
    intro i j hi hj e
    obtain ⟨oi, hoi⟩ := Option.isSome_iff_exists.1 hi
    obtain ⟨oj, hoj⟩ := Option.isSome_iff_exists.1 hj
    have := injL pre hp.nodup _ (hof_mem hoi) _ (hof_mem hoj) e
    simpa using congrArg Prod.fst this
  have refsPre : ∀ k, (∃ q ∈ pre, q.1 = k) → (hof pre k).isSome = true := by
    rintro k ⟨q, hq, rfl⟩
    exact hof_some (o := q.2) hq
  have hheld : Held okX φ0 (hof pre) w := by
    refine ⟨fun h k b hne h1 h2 hb => ?_, fun h ob hob => ?_⟩
    · exact g.disj (σ h) (σ k) b (fun e => hne (sinj h k h1 h2 e)) (alive _ (preP h h1)) (alive _ (preP k h2)) hb
    · have ho := g.own _ _ (preH h ob hob)
      have hok : ∀ b, okG C φ st.H b → okH okX φ0 (hof pre) b := fun b hb => ⟨okGX b hb, fun k hk => okXp b (okGX b hb) _ (preP k hk)⟩
      cases ob with
      | row ty sz es =>
        obtain ⟨xs, r1, r2, r3⟩ := ho
        exact ⟨xs, r1, r2.mono (fun b hb _ => hok b hb) (fun _ _ _ => rfl), r3⟩
      | nest ty tyI szI rows => exact nest_stay ho (fun _ _ => rfl) (fun r _ xs h => h.mono (fun b hb _ => hok b hb) (fun _ _ _ => rfl))
      | box ty cs =>
        obtain ⟨gb, arr, r1, r3, r4, r5⟩ := ho
        refine ⟨gb, arr, r1, r3, r4, ?_⟩
        have := unrens_rep (H1 := hof pre) (φ1 := φ0) (ok1 := okH okX φ0 (hof pre)) preH (fun k _ => rfl) hok cs arr.toList (fun k hk => refsPre k (hp.refsO _ (hof_mem hob) k hk)) (RepVs_iff.2 r5)
        exact RepVs_iff.1 this
  have hargs : All2 (RepV φ0 (hof pre) w (okH okX φ0 (hof pre))) as (args.toList.map a.eval ++ cv) := by
    have h1 : All2 (RepV φ st.H w okX) (rens σ as) (args.toList.map a.eval ++ cv) := by
      have one : ∀ x y v, passOf st.H pass x = some y → RepV φ st.H w (okG C φ st.H) x v → (conv = true ∨ passes pass x = true) → RepV φ st.H w okX y v := by
        intro x y v hy hv hcv
        unfold passOf at hy
        split at hy
        · cases hy; exact hv.mono (fun b hb _ => okGX b hb) (fun _ _ _ => rfl)
        · rename_i hnp
          have hcv := hcv.resolve_right hnp
          refine RepV.of (roOf_sound (fun h ob hh => ?_) g.own okGX (fun h b hs hb => ?_) 4 hv hy)
          · simp only [dropL] at hh
            split at hh
            · cases hh
            · exact hh
          · simp only [dropL] at hs
            split at hs
            · cases hs
            · rename_i hnc
              simp only [okX, if_pos hcv]
              refine ⟨?_, fun k hk hb' => ?_⟩
              · rcases g.mine h b hs hb with h | h
                · exact .inr h
                · exact .inl (.inr h)
              · exact g.disj h k b (fun e => hnc (by rw [e]; simpa using hk)) hs (alive k hk) hb hb'
      have conv2 : ∀ x ∈ args.toList.map st.ev ++ caps, conv = true ∨ passes pass x = true := by
        intro x hx'
        rcases hconv with h | h
        · exact .inl h
        · exact .inr (List.all_eq_true.1 h x hx')
      exact optAll_sound (f := passOf st.H pass) (R := fun x v => RepV φ st.H w (okG C φ st.H) x v ∧ (conv = true ∨ passes pass x = true)) (fun x y v hx' hy => one x y v hy hx'.1 hx'.2) ha
        ⟨hall.1, fun i x v hxi hvi => ⟨hall.2 i x v hxi hvi, conv2 x (List.mem_of_getElem? hxi)⟩⟩
    have h2 := unrens_rep (H1 := hof pre) (φ1 := φ0) (ok2 := okX) (ok1 := okH okX φ0 (hof pre)) preH (fun k _ => rfl) (fun b hb => ⟨hb, fun k hk => okXp b hb _ (preP k hk)⟩) as _ (fun k hk => refsPre k (hp.refs k hk)) (RepVs_iff.2 h1)
    exact RepVs_iff.1 h2
  have hold : ∀ h b, (hof pre h).isSome = true → Blk (φ0 h) b → ¬ w.heap.size ≤ b := by
    intro h b hh hb
    obtain ⟨ob, hob⟩ := Option.isSome_iff_exists.1 (alive _ (preP h hh))
    exact Nat.not_le.2 (blk_lt (g.own _ _ hob) hb)
  have hglb : Glb P w (okH okX φ0 (hof pre)) := g.glb.mono (fun b hb _ => ⟨okGX b hb, fun k hk => okXp b (okGX b hb) _ (preP k hk)⟩) (fun _ _ _ => rfl)
  have hcall := hden w okX φ0 _ hglb hheld hold hargs
  have hrun : (execOp a.eval o).run P w = .ok (.enter gf (args.toList.map a.eval ++ cv).toArray) w := by
    have hb2 : ¬ fn.body = none := by cases hfb : fn.body <;> simp_all
    have hname' : ¬ fn.name = "runtime.NumGoroutine" := by simpa using hname
    have e3 : args.map a.eval ++ cv.toArray = (args.toList.map a.eval ++ cv).toArray := by apply Array.ext'; simp
    simp [execOp, ho, resolve, Deferred.ofValue, hfv, invoke, callFunc, hfn, hname', hb2, e3]
  unfold Oper.wp
  rw [hrun]
  refine hcall.mono fun e w' hpost => ?_
  obtain ⟨xx, v, φ', hR, he, hbel, hkeep, hblk, hheld', hres⟩ := hpost
  subst he
  have hx := hxx xx hR
  have hn := hn xx hR
  generalize post xx = post at *
  generalize r xx = r at *
  have inj := injL post hx.nodup
  -- the state behind
  let φn : Nat → Value := fun k => match post.find? (fun p => σ p.1 == k) with
    | some p => φ' p.1
    | none => φ k
  let H' := updAll st.H σ post
  have φn_in : ∀ p ∈ post, φn (σ p.1) = φ' p.1 := by
    intro p hp
    simp only [φn]
    cases hf : post.find? (fun q => σ q.1 == σ p.1) with
    | none => exact absurd (List.find?_eq_none.1 hf p hp) (by simp)
    | some q =>
      have h1 := List.mem_of_find?_eq_some hf
      have h2 := List.find?_some hf
      simp only
      rw [inj q h1 p hp (by simpa using h2)]
  have φn_out : ∀ k, (∀ p ∈ post, σ p.1 ≠ k) → φn k = φ k := by
    intro k hk
    simp only [φn]
    cases hf : post.find? (fun q => σ q.1 == k) with
    | none => rfl
    | some q => exact absurd (by simpa using List.find?_some hf) (hk q (List.mem_of_find?_eq_some hf))
  have H'_in : ∀ p ∈ post, H' (σ p.1) = some (renO σ p.2) := fun p hp => updAll_same (k := p.1) (o := p.2) hx.nodup hp
  have H'_out : ∀ k, (∀ p ∈ post, σ p.1 ≠ k) → H' k = st.H k := fun k hk => updAll_other hk
  have split : ∀ k, (∃ p ∈ post, σ p.1 = k) ∨ ∀ p ∈ post, σ p.1 ≠ k := by
    intro k
    by_cases h : ∃ p ∈ post, σ p.1 = k
    · exact .inl h
    · exact .inr fun p hp e => h ⟨p, hp, e⟩
  have postS : ∀ p ∈ post, (hof post p.1).isSome = true := fun p hp => hof_some (o := p.2) hp
  have hofpost : ∀ k ob, hof post k = some ob → H' (σ k) = some (renO σ ob) := fun k ob h => H'_in _ (hof_mem h)
  have φpost : ∀ k, (hof post k).isSome = true → φn (σ k) = φ' k := by
    intro k hk
    obtain ⟨ob, hob⟩ := Option.isSome_iff_exists.1 hk
    exact φn_in _ (hof_mem hob)
  have prePost : ∀ p ∈ post, (∃ q ∈ pre, q.1 = p.1) → φ' p.1 = φ (σ p.1) ∧ (st.H (σ p.1)).isSome = true := by
    rintro p hp ⟨q, hq, e⟩
    have h1 : (hof pre p.1).isSome = true := by rw [← e]; exact hof_some (o := q.2) hq
    exact ⟨hkeep p.1 h1 (postS p hp), alive _ (preP _ h1)⟩
  -- where the new objects lie
  have blkNew : ∀ p ∈ post, ∀ b, Blk (φ' p.1) b → w.heap.size ≤ b ∨ ∃ k ∈ pass, Blk (φ k) b := by
    intro p hp b hb
    rcases hblk p.1 b (postS p hp) hb with h | ⟨k, h1, h2⟩
    · exact .inl h
    · exact .inr ⟨σ k, preP k h1, h2⟩
  have passPost : ∀ k ∈ pass, ∃ p ∈ post, σ p.1 = k := by
    intro k hk
    obtain ⟨p, hp, rfl⟩ := List.mem_map.1 hk
    obtain ⟨q, hq, e, -⟩ := hx.shape p hp
    exact ⟨q, hq, by rw [e]⟩
  have oldNew : ∀ k, (∀ p ∈ post, σ p.1 ≠ k) → (st.H k).isSome = true → ∀ b, Blk (φ k) b → ∀ p ∈ post, ¬ Blk (φ' p.1) b := by
    intro k hk hs b hb p hp hb'
    obtain ⟨ob, hob⟩ := Option.isSome_iff_exists.1 hs
    have hlt := blk_lt (g.own k _ hob) hb
    rcases blkNew p hp b hb' with h | ⟨j, hj, hbj⟩
    · omega
    · obtain ⟨q, hq, e⟩ := passPost j hj
      exact g.disj k j b (fun e' => hk q hq (by rw [e, e'])) hs (alive j hj) hb hbj
  have okOld : ∀ b, okG C φ st.H b → b < w.heap.size → okG C φn H' b := by
    intro b hb hlt
    refine ⟨hb.1, fun k hk hbk => ?_⟩
    rcases split k with ⟨p, hp, rfl⟩ | hout
    · rw [φn_in p hp] at hbk
      rcases blkNew p hp b hbk with h | ⟨j, hj, hbj⟩
      · omega
      · exact hb.2 j (alive j hj) hbj
    · rw [φn_out k hout] at hbk
      rw [H'_out k hout] at hk
      exact hb.2 k hk hbk
  have okNew : conv = false → ∀ b, okH (fun b => okX b ∨ w.heap.size ≤ b) φ' (hof post) b → okG C φn H' b := by
    intro hcf b hb
    have h1 : okG C φ st.H b ∨ w.heap.size ≤ b := by
      rcases hb.1 with h | h
      · simp only [okX, hcf] at h
        exact .inl (by simpa using h)
      · exact .inr h
    refine ⟨?_, fun k hk hbk => ?_⟩
    · rcases h1 with h | h
      · exact h.1
      · exact .inr (Nat.le_trans g.below.size h)
    · rcases split k with ⟨p, hp, rfl⟩ | hout
      · rw [φn_in p hp] at hbk
        exact hb.2 p.1 (postS p hp) hbk
      · rw [φn_out k hout] at hbk
        rw [H'_out k hout] at hk
        rcases h1 with h | h
        · exact h.2 k hk hbk
        · obtain ⟨ob, hob⟩ := Option.isSome_iff_exists.1 hk
          have := blk_lt (g.own k _ hob) hbk
          omega
  have passB : ∀ b, (∃ h, (hof pre h).isSome = true ∧ Blk (φ0 h) b) → ∃ k ∈ pass, Blk (φ k) b := by
    rintro b ⟨h, h1, h2⟩
    exact ⟨σ h, preP h h1, h2⟩
  have still : ∀ b, okG C φ st.H b → b < w.heap.size → w'.heap[b]? = w.heap[b]? := by
    intro b hb hlt
    refine hbel.block b hlt fun h => ?_
    obtain ⟨k, hk, hbk⟩ := passB b h
    exact hb.2 k (alive k hk) hbk
  -- values that were there
  have keepRep : ∀ v x, RepV φ st.H w (okG C φ st.H) v x → RepV φn H' w' (okG C φn H') v x := by
    intro v x hr
    have hbx : ∀ k ty cs, st.H k = some (.box ty cs) → φn k = φ k ∧ ∃ cs', H' k = some (.box ty cs') := by
      intro k ty cs hk
      rcases split k with ⟨p, hp, rfl⟩ | hout
      · rcases hx.fresh p hp with hq | ⟨h, -⟩
        · obtain ⟨q, hq, e⟩ := hq
          have h1 := hp1 q hq
          rw [e, hk] at h1
          obtain ⟨cs', hq2⟩ := renO_box (Option.some.inj h1).symm
          obtain ⟨p2, hp2, e2, hsh⟩ := hx.shape q hq
          have : p2 = p := inj p2 hp2 p hp (by rw [e2, e])
          subst this
          rw [hq2] at hsh
          refine ⟨by rw [φn_in p2 hp]; exact (prePost p2 hp ⟨q, hq, e⟩).1, ?_⟩
          cases hpo : p2.2 with
          | row => rw [hpo] at hsh; exact hsh.elim
          | nest => rw [hpo] at hsh; exact hsh.elim
          | box ty2 cs2 =>
            rw [hpo] at hsh
            have hsh' : ty = ty2 := hsh
            subst hsh'
            exact ⟨rens σ cs2, by rw [H'_in p2 hp, hpo]; rfl⟩
        · rw [hk] at h; cases h
      · exact ⟨φn_out k hout, cs, by rw [H'_out k hout]; exact hk⟩
    have hrw : ∀ k ty sz es, st.H k = some (.row ty sz es) → φn k = φ k ∧ ∃ es', H' k = some (.row ty sz es') ∧ es.length ≤ es'.length := by
      intro k ty sz es hk
      rcases split k with ⟨p, hp, rfl⟩ | hout
      · rcases hx.fresh p hp with hq | ⟨h, -⟩
        · obtain ⟨q, hq, e⟩ := hq
          have h1 := hp1 q hq
          rw [e, hk] at h1
          have hq2 := renO_row (Option.some.inj h1).symm
          obtain ⟨p2, hp2, e2, hsh⟩ := hx.shape q hq
          have : p2 = p := inj p2 hp2 p hp (by rw [e2, e])
          subst this
          rw [hq2] at hsh
          refine ⟨by rw [φn_in p2 hp]; exact (prePost p2 hp ⟨q, hq, e⟩).1, ?_⟩
          cases hpo : p2.2 with
          | box => rw [hpo] at hsh; exact hsh.elim
          | nest => rw [hpo] at hsh; exact hsh.elim
          | row ty2 sz2 es2 =>
            rw [hpo] at hsh
            obtain ⟨rfl, rfl, hl⟩ : ty = ty2 ∧ sz = sz2 ∧ es.length ≤ es2.length := hsh
            exact ⟨es2, by rw [H'_in p2 hp, hpo]; rfl, hl⟩
        · rw [hk] at h; cases h
      · exact ⟨φn_out k hout, es, by rw [H'_out k hout]; exact hk, Nat.le_refl _⟩
    have hns : ∀ k ty tyI szI rows, st.H k = some (.nest ty tyI szI rows) → φn k = φ k ∧ ∃ rows', H' k = some (.nest ty tyI szI rows') ∧ rows.length = rows'.length := by
      intro k ty tyI szI rows hk
      rcases split k with ⟨p, hp, rfl⟩ | hout
      · rcases hx.fresh p hp with hq | ⟨h, -⟩
        · obtain ⟨q, hq, e⟩ := hq
          have h1 := hp1 q hq
          rw [e, hk] at h1
          have hq2 := renO_nest (Option.some.inj h1).symm
          obtain ⟨p2, hp2, e2, hsh⟩ := hx.shape q hq
          have : p2 = p := inj p2 hp2 p hp (by rw [e2, e])
          subst this
          rw [hq2] at hsh
          refine ⟨by rw [φn_in p2 hp]; exact (prePost p2 hp ⟨q, hq, e⟩).1, ?_⟩
          cases hpo : p2.2 with
          | box => rw [hpo] at hsh; exact hsh.elim
          | row => rw [hpo] at hsh; exact hsh.elim
          | nest ty2 tyI2 szI2 rows2 =>
            rw [hpo] at hsh
            obtain ⟨rfl, rfl, rfl, hl⟩ : ty = ty2 ∧ tyI = tyI2 ∧ szI = szI2 ∧ rows.length = rows2.length := hsh
            exact ⟨rows2, by rw [H'_in p2 hp, hpo]; rfl, hl⟩
        · rw [hk] at h; cases h
      · exact ⟨φn_out k hout, rows, by rw [H'_out k hout]; exact hk, rfl⟩
    refine RepV.lift1 (p := fun _ => True) (fun _ _ _ _ => trivial) (fun _ _ _ _ => trivial) (fun v x hl _ hr => ?_) trivial hr
    cases v with
    | nst k n =>
      obtain ⟨ty, tyI, szI, rows, fs, hk, r, r2, r3⟩ := hr
      obtain ⟨e, rows', hk', hl⟩ := hns k ty tyI szI rows hk
      exact ⟨ty, tyI, szI, rows', fs, hk', by rw [e]; exact r, r2, by omega⟩
    | nptr k i =>
      obtain ⟨ty, tyI, szI, rows, gb, m, c, fs, hk, h2, r2, r3⟩ := hr
      obtain ⟨e, rows', hk', hl⟩ := hns k ty tyI szI rows hk
      exact ⟨ty, tyI, szI, rows', gb, m, c, fs, hk', by rw [e]; exact h2, by omega, r3⟩
    | inr k i =>
      obtain ⟨ty, tyI, szI, rows, fo, fs, hk, r⟩ := hr
      obtain ⟨e, rows', hk', hl⟩ := hns k ty tyI szI rows hk
      exact ⟨ty, tyI, szI, rows', fo, fs, hk', by rw [e]; exact r⟩
    | agg => simp [leafV] at hl
    | tup => simp [leafV] at hl
    | ptr k o =>
      obtain ⟨ty, cs, gb, hk, h2, r⟩ := hr
      obtain ⟨e, cs', hk'⟩ := hbx k ty cs hk
      exact ⟨ty, cs', gb, hk', by rw [e]; exact h2, r⟩
    | eptr k i o =>
      obtain ⟨ty, sz, es, gb, m, c, hk, h2, r2, r3⟩ := hr
      obtain ⟨e, es', hk', hl⟩ := hrw k ty sz es hk
      exact ⟨ty, sz, es', gb, m, c, hk', by rw [e]; exact h2, by omega, r3⟩
    | own k n =>
      obtain ⟨ty, sz, es, A, m, c, hk, h2, r2, r3⟩ := hr
      obtain ⟨e, es', hk', hl⟩ := hrw k ty sz es hk
      exact ⟨ty, sz, es', A, m, c, hk', by rw [e]; exact h2, by omega, r3⟩
    | osl k i n =>
      obtain ⟨ty, sz, es, A, m, c, A', c', hk, h2, r2, r3⟩ := hr
      obtain ⟨e, es', hk', hl⟩ := hrw k ty sz es hk
      exact ⟨ty, sz, es', A, m, c, A', c', hk', by rw [e]; exact h2, by omega, r3⟩
    | clo f hs =>
      obtain ⟨e, hall⟩ := hr
      refine ⟨?_, fun k hk => ?_⟩
      · rw [e]
        congr 2
        apply List.map_congr_left
        intro k hk
        obtain ⟨ty, cs, hk'⟩ := hall k hk
        exact (hbx k ty cs hk').1.symm
      · obtain ⟨ty, cs, hk'⟩ := hall k hk
        obtain ⟨-, cs', hk2⟩ := hbx k ty cs hk'
        exact ⟨ty, cs', hk2⟩
    | junk => trivial
    | _ => exact RepV.of (((RepV.ro rfl).1 hr).mono okOld still)
  have hpure : ∀ v : AV, (conv = true → pureV v = true) → (∀ b, okH (fun b => okX b ∨ w.heap.size ≤ b) φ' (hof post) b → okG C φn H' b) ∨ pureV v = true := by
    intro v hv
    cases hcf : conv with
    | true => exact .inr (hv hcf)
    | false => exact .inl (okNew hcf)
  have g2 : GamW C { env := st.env, H := H' } φn a w' := by
    refine ⟨g.size, g.defers, g.below.trans hbel (fun b hb => ?_), fun k b hk hb => ?_, fun k hk hs => ?_, fun h k b hne h1 h2 hb => ?_, fun k ob hk => ?_, fun t => keepRep _ _ (g.rep t)⟩
    · obtain ⟨k, hk, hbk⟩ := passB b hb
      exact g.mine k b (alive k hk) hbk
    · rcases split k with ⟨p, hp, rfl⟩ | hout
      · rw [φn_in p hp] at hb
        rcases blkNew p hp b hb with h | ⟨j, hj, hbj⟩
        · exact .inr (Nat.le_trans g.below.size h)
        · exact g.mine j b (alive j hj) hbj
      · rw [φn_out k hout] at hb
        exact g.mine k b (by rw [← H'_out k hout]; exact hk) hb
    · rcases split k with ⟨p, hp, rfl⟩ | hout
      · rcases hx.fresh p hp with hq | ⟨-, h⟩
        · rw [φn_in p hp, (prePost p hp hq).1]
          exact g.keep _ hk (prePost p hp hq).2
        · omega
      · rw [φn_out k hout]
        exact g.keep k hk (by rw [← H'_out k hout]; exact hs)
    · rcases split h with ⟨p, hp, rfl⟩ | ho1 <;> rcases split k with ⟨q, hq, rfl⟩ | ho2
      · rw [φn_in p hp] at hb
        rw [φn_in q hq]
        exact hheld'.disj p.1 q.1 b (fun e => hne (by rw [e])) (postS p hp) (postS q hq) hb
      · rw [φn_in p hp] at hb
        rw [φn_out k ho2]
        intro hb'
        exact oldNew k ho2 (by rw [← H'_out k ho2]; exact h2) b hb' p hp hb
      · rw [φn_out h ho1] at hb
        rw [φn_in q hq]
        exact oldNew h ho1 (by rw [← H'_out h ho1]; exact h1) b hb q hq
      · rw [φn_out h ho1] at hb
        rw [φn_out k ho2]
        exact g.disj h k b hne (by rw [← H'_out h ho1]; exact h1) (by rw [← H'_out k ho2]; exact h2) hb
    · rcases split k with ⟨p, hp, rfl⟩ | hout
      · have hk2 : H' (σ p.1) = some ob := hk
        rw [H'_in p hp] at hk2
        cases hk2
        show OwnOb φn H' w' (okG C φn H') (φn (σ p.1)) (renO σ p.2)
        rw [φn_in p hp]
        have hob : hof post p.1 = some p.2 := by
          obtain ⟨ob, hob⟩ := Option.isSome_iff_exists.1 (postS p hp)
          have := inj _ (hof_mem hob) p hp rfl
          rw [hob, ← this]
        have ho := hheld'.own _ _ hob
        have hpo : conv = true → pureO p.2 := fun hc => (hx.pure hc).2 p hp
        generalize hpv : p.2 = ob at ho hpo
        cases ob with
        | row ty sz es =>
          obtain ⟨xs, r1, r2, r3⟩ := ho
          refine ⟨xs, r1, ?_, r3⟩
          cases hcf : conv with
          | true => exact r2.noMem (hpo hcf)
          | false => exact r2.mono (fun b hb _ => okNew hcf b hb) (fun _ _ _ => rfl)
        | nest ty tyI szI rows =>
          refine nest_stay ho (fun _ _ => rfl) (fun r hr xs h => ?_)
          cases hcf : conv with
          | true => exact h.noMem (hpo hcf r hr)
          | false => exact h.mono (fun b hb _ => okNew hcf b hb) (fun _ _ _ => rfl)
        | box ty cs =>
          obtain ⟨gb, arr, r1, r3, r4, r5⟩ := ho
          refine ⟨gb, arr, r1, r3, r4, ?_⟩
          rw [rens_map]
          refine ⟨by simpa using r5.1, fun i x v hxi hvi => ?_⟩
          rw [List.getElem?_map] at hxi
          cases hci : cs[i]? with
          | none => rw [hci] at hxi; cases hxi
          | some c =>
            rw [hci] at hxi; cases hxi
            refine ren_rep hofpost φpost (hpure c fun hc => ?_) (r5.2 i c v hci hvi)
            have := hpo hc
            simp only [pureO, pureVs_all, List.all_eq_true] at this
            exact this c (List.mem_of_getElem? hci)
      · have hk0 : st.H k = some ob := by rw [← H'_out k hout]; exact hk
        have hs : (st.H k).isSome = true := by rw [hk0]; rfl
        show OwnOb φn H' w' (okG C φn H') (φn k) ob
        rw [φn_out k hout]
        have ho := g.own k ob hk0
        have hstay : ∀ b, Blk (φ k) b → w'.heap[b]? = w.heap[b]? := by
          intro b hb
          refine hbel.block b (blk_lt ho hb) fun h => ?_
          obtain ⟨j, hj, hbj⟩ := passB b h
          obtain ⟨q, hq, e⟩ := passPost j hj
          exact g.disj k j b (fun e' => hout q hq (by rw [e, e'])) hs (alive j hj) hb hbj
        cases ob with
        | row ty sz es =>
          obtain ⟨xs, r1, r2, r3, r4⟩ := ho
          refine ⟨xs, ?_, r2.mono okOld still, r3, r4⟩
          rcases r1.cases with h | ⟨gb, cap, cur, e, hB, hh, q1, q2, q3, q4⟩
          · exact .inr h
          · cases cap with
            | zero =>
              have h0 : es.length = 0 := by omega
              exact .inr ⟨h0, List.eq_nil_of_length_eq_zero (by rw [r1.length, h0]; simp), _, by rw [e, h0]⟩
            | succ cap => exact .inl ⟨r1.length, .inr ⟨gb, cap + 1, cur, e, hB, by rw [hstay gb (by rw [e]; rfl)]; exact hh, q1, q2, q3, q4⟩⟩
        | nest ty tyI szI rows => exact nest_stay ho hstay (fun r _ xs h => h.mono okOld still)
        | box ty cs =>
          obtain ⟨gb, arr, r1, r3, r4, r5⟩ := ho
          exact ⟨gb, arr, r1, by rw [hstay gb (by rw [r1]; rfl)]; exact r3, r4, r5.1, fun i x v hxi hvi => keepRep _ _ (r5.2 i x v hxi hvi)⟩
  refine hn φn (a.put o.dst v) w' (g2.put ?_ o.dst hN)
  exact ren_rep hofpost φpost (hpure r fun hc => (hx.pure hc).1) hres
def callXQ (P : Program) (st : St) (o : Oper) (c : Call) (K : St → Prop) : Prop :=
  match c.callee with
  | .value f => ∃ (gf : Nat) (caps as : List AV) (σ : Nat → Nat) (pre : List (Nat × OB)) (τ : Type) (R : τ → Prop) (post : τ → List (Nat × OB)) (r : τ → AV) (conv : Bool), calleeX (st.ev f) = some (gf, caps) ∧
      optAll (passOf st.H (pre.map fun p => σ p.1)) (c.args.toList.map st.ev ++ caps) = some (rens σ as) ∧
      (conv = true ∨ (c.args.toList.map st.ev ++ caps).all (passes (pre.map fun p => σ p.1)) = true) ∧
      DenXR P gf pre as R post r ∧ CallPre st σ pre as ∧ (∀ x, R x → CallX st σ pre (post x) conv (r x)) ∧ ∀ x, R x → K (St.put { env := st.env, H := updAll st.H σ (post x) } o.dst (ren σ (r x)))
  | _ => False
end
end Go.Proofs.Ytdnndlalflahhaa.Ev
