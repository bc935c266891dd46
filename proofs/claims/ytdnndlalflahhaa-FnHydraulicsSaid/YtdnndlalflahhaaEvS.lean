/- The library's sort of integers, by its contract, as a callee that is handed an own row. -/
import Derived.Test.YtdnndlalflahhaaEvO
import Derived.Sort.OwnSortedInts
import Derived.Shelf.SortM.SortNone
set_option linter.unusedVariables false
set_option linter.unusedSimpArgs false
namespace Go.Proofs.Ytdnndlalflahhaa.Ev
open Go Go.RowKit Go.Sort
def srtI (xs : List Int) : List Int := xs.mergeSort fun x y => decide (x ≤ y)
def cI (n : Int) : AV := .s (.int .i64 n)
section
variable {P : Program}
theorem flats_cI : ∀ xs : List Int, flats (xs.map cI) = xs.map cI
  | [] => rfl
  | x :: xs => by simp only [List.map_cons, flats, List.flatMap_cons]; show flat (cI x) ++ flats (xs.map cI) = _; rw [flats_cI xs]; rfl
theorem reps_cI {w : World} {ok : Nat → Prop} : ∀ xs : List Int, Reps w ok (xs.map cI) (xs.map (Value.int .i64))
  | [] => .nil
  | x :: xs => .cons (.s rfl) (reps_cI xs)
theorem reps_cI_eq {w : World} {ok : Nat → Prop} : ∀ {xs : List Int} {vs : List Value}, Reps w ok (xs.map cI) vs → vs = xs.map (Value.int .i64)
  | [], _, .nil => rfl
  | x :: xs, _, .cons h t => by
    cases h
    rw [reps_cI_eq t]; rfl
theorem srtI_len (xs : List Int) : (srtI xs).length = xs.length := List.length_mergeSort ..
theorem denX_sort {f ty : Nat} {xs : List Int} (hfn : ∃ fn, P.funcs[f]? = some fn ∧ (fn.name == "runtime.NumGoroutine") = false ∧ fn.body.isSome = true)
    (hs : ∀ (blk cap : Nat) (zs : List Int) (w : World), Holds (Value.int .i64) w blk 0 zs.toArray → blk < w.heap.size → zs.length < 4611686018427387904 →
      Calls P f #[.slice (some ⟨blk, 0, none⟩) zs.length cap] w fun e w' => e = .returned (.tuple #[]) ∧ ∃ n os, w' = grow (putRow (Value.int .i64) (Sort.ahead w n) blk 0 (zs.mergeSort fun x y => decide (x ≤ y)).toArray) os)
    (h0 : ∀ (p : Option Addr) (cap : Nat) (w : World), Calls P f #[.slice p 0 cap] w fun e w' => e = .returned (.tuple #[]) ∧ w' = w)
    (hl : xs.length < 4611686018427387904) : DenX P f [(1000000, .row ty 1 (xs.map cI))] [.own 1000000 xs.length] [(1000000, .row ty 1 ((srtI xs).map cI))] (.tup []) := by
  refine ⟨hfn, fun w ok φ vs hglb hheld hold hvs => ?_⟩
  have hpre : hof [(1000000, OB.row ty 1 (xs.map cI))] 1000000 = some (.row ty 1 (xs.map cI)) := by simp [hof, upd_same]
  have hpost : hof [(1000000, OB.row ty 1 ((srtI xs).map cI))] 1000000 = some (.row ty 1 ((srtI xs).map cI)) := by simp [hof, upd_same]
  have only : ∀ {o : OB} {h : Nat}, (hof [(1000000, o)] h).isSome = true → h = 1000000 := by
    intro o h hh
    obtain ⟨ob, hob⟩ := Option.isSome_iff_exists.1 hh
    have := hof_mem hob
    simp at this
    exact this.1
  obtain ⟨v, hv1, hv⟩ := hvs.get (i := 0) (x := .own 1000000 xs.length) rfl
  have hvl : vs = [v] := by
    have := hvs.1
    match vs, this, hv1 with
    | [u], _, h => simp at h; rw [h]
  subst hvl
  unfold RepV at hv
  obtain ⟨ty', sz', es', A, m, c, hH, hφ, hn, rfl⟩ := hv
  rw [hpre] at hH
  cases hH
  obtain ⟨xs', r1, r2, r3, r4⟩ := hheld.own 1000000 _ hpre
  rw [flats_cI] at r2
  have exs := reps_cI_eq r2
  subst exs
  have hok : ∀ b, okH ok φ (hof [(1000000, OB.row ty 1 (xs.map cI))]) b → okH (fun b => ok b ∨ w.heap.size ≤ b) φ (hof [(1000000, OB.row ty 1 ((srtI xs).map cI))]) b := fun b hb => ⟨.inl hb.1, fun h hh => by
    have := only hh; subst this
    exact hb.2 1000000 (by rw [hpre]; rfl)⟩
  have held : ∀ w' : World, OwnsR w' 0 ty 1 (φ 1000000) xs.length ((srtI xs).map (Value.int .i64)) → Held (fun b => ok b ∨ w.heap.size ≤ b) φ (hof [(1000000, OB.row ty 1 ((srtI xs).map cI))]) w' := fun w' ho =>
    ⟨fun h k b hne h1 h2 => absurd ((only h1).trans (only h2).symm) hne, fun h ob hob => by
      have e := only (by rw [hob]; rfl)
      subst e
      rw [hpost] at hob
      cases hob
      refine ⟨(srtI xs).map (Value.int .i64), by rw [List.length_map, srtI_len]; exact ho, by rw [flats_cI]; exact reps_cI _, fun x hx => ?_, fun e he => ?_⟩
      · obtain ⟨n, -, rfl⟩ := List.mem_map.1 hx; rfl
      · obtain ⟨n, -, rfl⟩ := List.mem_map.1 he; rfl⟩
  have fin : ∀ (e : Ending) (w' : World), e = .returned (.tuple #[]) → BelowM (fun b => ∃ h, (hof [(1000000, OB.row ty 1 (xs.map cI))] h).isSome = true ∧ Blk (φ h) b) w w' →
      OwnsR w' 0 ty 1 (φ 1000000) xs.length ((srtI xs).map (Value.int .i64)) → ∃ (x : Unit) (v : Value) (φ' : Nat → Value), True ∧ e = .returned v ∧
      BelowM (fun b => ∃ h, (hof [(1000000, OB.row ty 1 (xs.map cI))] h).isSome = true ∧ Blk (φ h) b) w w' ∧
      (∀ h, (hof [(1000000, OB.row ty 1 (xs.map cI))] h).isSome = true → (hof [(1000000, OB.row ty 1 ((srtI xs).map cI))] h).isSome = true → φ' h = φ h) ∧
      (∀ h b, (hof [(1000000, OB.row ty 1 ((srtI xs).map cI))] h).isSome = true → Blk (φ' h) b → w.heap.size ≤ b ∨ ∃ k, (hof [(1000000, OB.row ty 1 (xs.map cI))] k).isSome = true ∧ Blk (φ k) b) ∧
      Held (fun b => ok b ∨ w.heap.size ≤ b) φ' (hof [(1000000, OB.row ty 1 ((srtI xs).map cI))]) w' ∧
      RepV φ' (hof [(1000000, OB.row ty 1 ((srtI xs).map cI))]) w' (okH (fun b => ok b ∨ w.heap.size ≤ b) φ' (hof [(1000000, OB.row ty 1 ((srtI xs).map cI))])) (.tup []) v := fun e w' he hb ho =>
    ⟨(), .tuple #[], φ, trivial, he, hb, fun _ _ _ => rfl, fun h b h1 h2 => .inr ⟨1000000, by rw [hpre]; rfl, by rw [← only h1]; exact h2⟩, held w' ho, RepV.of (Rep.tup (vs := []) .nil)⟩
  rw [List.length_map] at r1
  by_cases hx0 : xs = []
  · subst hx0
    refine (h0 A c w).mono ?_
    rintro e w' ⟨he, rfl⟩
    exact fin e _ he (BelowM.refl _ _) (by rw [show srtI [] = [] by simp [srtI]]; exact r1)
  have hx1 : xs.length ≠ 0 := fun e => hx0 (List.eq_nil_of_length_eq_zero e)
  rcases r1.cases with ⟨hn0, -, -⟩ | ⟨g, cap, cur, hfv, hB, hheap, h1, h2, h3, h4⟩
  · exact absurd hn0 hx1
  · have hlt : g < w.heap.size := lt_of_heap hheap
    rw [hφ] at hfv
    cases hfv
    have ht : cur.toList.take xs.length = xs.map (Value.int .i64) := by rw [← h4, Nat.mul_one]
    refine (hs g c xs w (holds_of_blockI hheap ht) hlt hl).mono ?_
    rintro e w' ⟨he, n, os, e2⟩
    have ho := ownsRow_sortedI (os := os) (n := n) (ss := xs) (ts := srtI xs) (srtI_len xs) hB hheap h1 h2 h3
    have hg := grownBy_sortedI (w := w) (g := g) (n := n) (os := os) (srtI xs).toArray
    have e3 : w' = grow (putRow (Value.int .i64) (Sort.ahead w n) g 0 (srtI xs).toArray) os := e2
    rw [← e3] at ho hg
    obtain ⟨g1, g2, g3, g4, g5⟩ := hg
    refine fin e _ he ⟨g1, g2, g3, g4, fun k hk hne => g5 k hk fun e2 => hne ⟨1000000, by rw [hpre]; rfl, ?_⟩⟩ (.inl (by rw [hφ]; exact ho))
    obtain ⟨j, hj⟩ := Nat.exists_eq_succ_of_ne_zero (show c ≠ 0 by omega)
    rw [hφ, hj]
    exact e2.symm
end
end Go.Proofs.Ytdnndlalflahhaa.Ev
