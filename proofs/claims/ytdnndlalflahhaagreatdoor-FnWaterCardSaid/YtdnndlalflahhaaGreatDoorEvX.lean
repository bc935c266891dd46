/- Numbers read: what the errors of the library hold, and ParseInt. -/
import Derived.Test.YtdnndlalflahhaaGreatDoorEvU
import Derived.Test.YtdnndlalflahhaaGreatDoorEvW
set_option linter.unusedVariables false
set_option linter.unusedSimpArgs false
namespace Go.Proofs.YtdnndlalflahhaaGreatDoor.Ev
open Go Go.RowKit
section
variable {P : Program}
theorem glb_err {w : World} {ok : Nat → Prop} (h : Glb P w ok) {g : Nat} {n : String} (hn : n = "strconv.ErrSyntax" ∨ n = "strconv.ErrRange") (hg : P.globalNamed n = some g) : ∃ ev, w.cell? ⟨g, 0, none⟩ = some ev ∧ (ev = .nilIface ∨ ∃ te pe, ev = .iface te pe) := by
  obtain ⟨_, cs, ty, fr, h2, h3⟩ := h _ _ (by rcases hn with e | e <;> subst e <;> simp [watched]) hg
  unfold goodVar at h3
  rw [if_neg (by rcases hn with e | e <;> subst e <;> decide), if_neg (by rcases hn with e | e <;> subst e <;> decide)] at h3
  obtain ⟨ev, h3, h4⟩ := h3
  exact ⟨ev, by simp [World.cell?, h2, h3], h4⟩
theorem all2_s {φ : Nat → Value} {H : Nat → Option OB} {w : World} {ok : Nat → Prop} {v : Value} {u : Value} (h : RepV φ H w ok (.s v) u) : u = v := by
  have h2 : Rep w ok (.s v) u := h
  cases h2; rfl
theorem denR_parse {f ti g1 g2 : Nat} (hfn : ∃ fn, P.funcs[f]? = some fn ∧ (fn.name == "runtime.NumGoroutine") = false ∧ fn.body.isSome = true) (s : ByteArray)
    (hg1 : P.globalNamed "strconv.ErrSyntax" = some g1) (hg2 : P.globalNamed "strconv.ErrRange" = some g2)
    (hno : ∀ v, Lib.parseIntB 64 s.data.toList ≠ .ok v)
    (h1 : Lib.parseIntB 64 s.data.toList = .«syntax» → ∀ (ev : Value) (w : World), w.cell? ⟨g1, 0, none⟩ = some ev → (ev = .nilIface ∨ ∃ te pe, ev = .iface te pe) →
      Calls P f #[.string s, .int .i64 10, .int .i64 64] w fun e w' => ∃ (n : Int) (N : Nat), e = .returned (.tuple #[.int .i64 n, .iface ti (.pointer (some ⟨N, 0, none⟩))]) ∧ Below w.heap.size w w')
    (h2 : Lib.parseIntB 64 s.data.toList = .range → ∀ (ev : Value) (w : World), w.cell? ⟨g2, 0, none⟩ = some ev → (ev = .nilIface ∨ ∃ te pe, ev = .iface te pe) →
      Calls P f #[.string s, .int .i64 10, .int .i64 64] w fun e w' => ∃ (n : Int) (N : Nat), e = .returned (.tuple #[.int .i64 n, .iface ti (.pointer (some ⟨N, 0, none⟩))]) ∧ Below w.heap.size w w') :
    DenR P f [.s (.string s), .s (.int .i64 10), .s (.int .i64 64)] (τ := Int × Nat) (fun _ => True) (fun x => .tup [.s (.int .i64 x.1), .s (.iface ti (.pointer (some ⟨x.2, 0, none⟩)))]) := by
  refine ⟨hfn, fun w ok φ vs hglb hheld hold hvs => ?_⟩
  obtain ⟨v0, e0, r0⟩ := hvs.get (i := 0) (x := .s (.string s)) rfl
  obtain ⟨v1, e1, r1⟩ := hvs.get (i := 1) (x := .s (.int .i64 10)) rfl
  obtain ⟨v2, e2, r2⟩ := hvs.get (i := 2) (x := .s (.int .i64 64)) rfl
  have hvl : vs = [v0, v1, v2] := by
    have := hvs.1
    match vs, this, e0, e1, e2 with
    | [a, b, c], _, h0, h1, h2 => simp at h0 h1 h2; rw [h0, h1, h2]
  have x0 := all2_s r0; have x1 := all2_s r1; have x2 := all2_s r2
  subst hvl x0 x1 x2
  refine Calls.mono (R := fun e w' => ∃ (n : Int) (N : Nat), e = Ending.returned (.tuple #[.int .i64 n, .iface ti (.pointer (some ⟨N, 0, none⟩))]) ∧ Below w.heap.size w w') ?_ ?_
  rotate_left
  · rintro e w' ⟨n, N, he, hb⟩
    exact ⟨(n, N), _, φ, trivial, he, ⟨hb.os, hb.tape, hb.output, hb.size, fun k hk _ => hb.block k hk⟩, (by intro h hs; cases hs), (by intro h b hs; cases hs), ⟨(by intro h k b _ hs; cases hs), (by intro h ob hob; cases hob)⟩,
      RepV.of (Rep.tup (vs := [_, _]) (.cons (.s rfl) (.cons (.s rfl) .nil)))⟩
  cases hp : Lib.parseIntB 64 s.data.toList with
  | ok v => exact absurd hp (hno v)
  | «syntax» =>
    obtain ⟨ev, q1, q2⟩ := glb_err hglb (.inl rfl) hg1
    exact h1 hp ev w q1 q2
  | range =>
    obtain ⟨ev, q1, q2⟩ := glb_err hglb (.inr rfl) hg2
    exact h2 hp ev w q1 q2
end
theorem glb_of {P : Program} {W : World} {gp : Nat} (hgp : P.globalNamed "internal/strconv.uint64pow10" = some gp)
    (htab : Lib.TabIs P W "internal/strconv.uint64pow10" .u64 ((List.range 20).map fun i => ((10 ^ i : Nat) : Int)))
    (hlen : ∀ g, P.globalNamed "internal/bytealg.MaxLen" = some g → ∃ m, W.cell? ⟨g, 0, none⟩ = some (.int .i64 m))
    (hsyn : ∀ g, P.globalNamed "strconv.ErrSyntax" = some g → ∃ ev, W.cell? ⟨g, 0, none⟩ = some ev ∧ (ev = .nilIface ∨ ∃ te pe, ev = .iface te pe))
    (hrng : ∀ g, P.globalNamed "strconv.ErrRange" = some g → ∃ ev, W.cell? ⟨g, 0, none⟩ = some ev ∧ (ev = .nilIface ∨ ∃ te pe, ev = .iface te pe)) : Glb P W (fun _ => True) := by
  intro n g hn hg
  refine ⟨trivial, ?_⟩
  have cellE : ∀ {v : Value}, W.cell? ⟨g, 0, none⟩ = some v → ∃ cs ty fr, W.heap[g]? = some (.cells cs ty fr) ∧ cs[0]? = some v := fun {v} h => by
    obtain ⟨_, arr, ty, fr, h1, h2⟩ := cell_obj h
    exact ⟨arr, ty, fr, h1, h2⟩
  simp only [watched, List.mem_cons, List.not_mem_nil, or_false] at hn
  rcases hn with rfl | rfl | rfl | rfl
  · unfold Lib.TabIs World.var? at htab
    rw [hg] at htab
    simp only [Option.bind_some] at htab
    split at htab
    · rename_i cs ty fr hb
      refine ⟨cs, ty, fr, hb, ?_⟩
      unfold goodVar
      rw [if_pos rfl]
      rw [Option.some.inj htab, List.map_map]; rfl
    · cases htab
  · obtain ⟨m, h⟩ := hlen g hg
    obtain ⟨cs, ty, fr, h1, h2⟩ := cellE h
    refine ⟨cs, ty, fr, h1, ?_⟩
    unfold goodVar
    rw [if_neg (by decide), if_pos rfl]
    exact ⟨m, h2⟩
  · obtain ⟨ev, h, h3⟩ := hsyn g hg
    obtain ⟨cs, ty, fr, h1, h2⟩ := cellE h
    refine ⟨cs, ty, fr, h1, ?_⟩
    unfold goodVar
    rw [if_neg (by decide), if_neg (by decide)]
    exact ⟨ev, h2, h3⟩
  · obtain ⟨ev, h, h3⟩ := hrng g hg
    obtain ⟨cs, ty, fr, h1, h2⟩ := cellE h
    refine ⟨cs, ty, fr, h1, ?_⟩
    unfold goodVar
    rw [if_neg (by decide), if_neg (by decide)]
    exact ⟨ev, h2, h3⟩
theorem ifc_of_laid {P : Program} {W : World} {n : String} {d : DataW Unit} {r : List (String × DataW Unit)} {g : Nat} {t : TypeId} {ms : Array (String × TypeId)} (h : laidMet P ((n, d) :: r) W)
    (hg : P.globalNamed n = some g) (ht : (P.globals[g]?).map (·.type) = some t) (hi : P.underlying t = some (.interface ms)) : ∃ ev, W.cell? ⟨g, 0, none⟩ = some ev ∧ (ev = .nilIface ∨ ∃ te pe, ev = .iface te pe) := by
  obtain ⟨ps, ⟨g0, t0, cs0, f0, p0, q0, hg0, ht0, hv0, hd0, _, _⟩, _⟩ := h
  obtain rfl := Option.some.inj (hg.symm.trans hg0)
  obtain rfl := Option.some.inj (ht.symm.trans ht0)
  have hc := World.var?_cell hg hv0 0
  obtain ⟨l0⟩ := cs0
  cases f0 with
  | zero => simp [DataW.trod] at hd0
  | succ f =>
    rcases l0 with _ | ⟨v, _ | ⟨u, l⟩⟩
    · simp [DataW.trod, hi] at hd0
    · cases v <;> first
        | (simp [DataW.trod, hi] at hd0; done)
        | exact ⟨_, by simpa using hc, .inl rfl⟩
        | exact ⟨_, by simpa using hc, .inr ⟨_, _, rfl⟩⟩
    · simp [DataW.trod, hi] at hd0
end Go.Proofs.YtdnndlalflahhaaGreatDoor.Ev
