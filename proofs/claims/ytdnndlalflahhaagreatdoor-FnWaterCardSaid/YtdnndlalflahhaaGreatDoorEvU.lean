/- The library's functions on texts, by their contracts, as callees that only read. -/
import Derived.Test.YtdnndlalflahhaaGreatDoorEvO
import Derived.Lib.ItoaNum
import Derived.Lib.Join
import Derived.Lib.Split
import Derived.Lib.ParseIntB
import Derived.Lib.LaidTab
import Derived.Lib.AppendIntMem
import Derived.Lib.SmallJoins
import Derived.Lib.IndexMore
set_option linter.unusedVariables false
set_option linter.unusedSimpArgs false
namespace Go.Proofs.YtdnndlalflahhaaGreatDoor.Ev
open Go Go.RowKit
def tx (l : List UInt8) : ByteArray := ⟨l.toArray⟩
def dec (n : Int) : ByteArray := tx (Lib.itoa n)
def stA (s : ByteArray) : AV := .s (.string s)
section
variable {P : Program}
theorem glb_tab {w : World} {ok : Nat → Prop} (h : Glb P w ok) {g : Nat} (hg : P.globalNamed "internal/strconv.uint64pow10" = some g) : Lib.TabIs P w "internal/strconv.uint64pow10" .u64 Lib.pow10Tab := by
  obtain ⟨_, cs, ty, fr, h2, h3⟩ := h _ _ (by simp [watched]) hg
  unfold Lib.TabIs World.var?
  rw [hg]
  simp only [Option.bind_some, h2]
  unfold goodVar at h3
  rw [if_pos rfl] at h3
  rw [h3]
  simp [Lib.pow10Tab, List.map_map]
theorem glb_len {w : World} {ok : Nat → Prop} (h : Glb P w ok) {g : Nat} (hg : P.globalNamed "internal/bytealg.MaxLen" = some g) : ∃ m, w.cell? ⟨g, 0, none⟩ = some (.int .i64 m) := by
  obtain ⟨_, cs, ty, fr, h2, h3⟩ := h _ _ (by simp [watched]) hg
  unfold goodVar at h3
  rw [if_neg (by decide), if_pos rfl] at h3
  obtain ⟨m, h3⟩ := h3
  exact ⟨m, by simp [World.cell?, h2, h3]⟩
theorem reps_st {w : World} {ok : Nat → Prop} : ∀ {xs : List ByteArray} {vs : List Value}, Reps w ok (flats (xs.map stA)) vs → vs = xs.map Value.string
  | [], _, h => by cases h; rfl
  | x :: xs, vs, h => by
    have e : flats ((x :: xs).map stA) = stA x :: flats (xs.map stA) := rfl
    rw [e] at h
    cases h with
    | cons a t => cases a; rw [reps_st t]; rfl
theorem reps_st2 {w : World} {ok : Nat → Prop} : ∀ xs : List ByteArray, Reps w ok (flats (xs.map stA)) (xs.map Value.string)
  | [] => .nil
  | x :: xs => .cons (.s rfl) (reps_st2 xs)
theorem den_fmt {f : Nat} (hfn : ∃ fn, P.funcs[f]? = some fn ∧ (fn.name == "runtime.NumGoroutine") = false ∧ fn.body.isSome = true) {g : Nat} (hg : P.globalNamed "internal/strconv.uint64pow10" = some g)
    (hc : ∀ (n : Int), -9223372036854775808 ≤ n → n ≤ 9223372036854775807 → ∀ w : World, Lib.TabIs P w "internal/strconv.uint64pow10" .u64 Lib.pow10Tab →
      Calls P f #[.int .i64 n, .int .i64 10] w fun e w' => e = .returned (.string ⟨(Lib.itoa n).toArray⟩) ∧ ∃ k os, w' = Sort.grow (w.drewN k) os)
    (n : Int) (h0 : -9223372036854775808 ≤ n) (h1 : n ≤ 9223372036854775807) : Den P f [.s (.int .i64 n), .s (.int .i64 10)] (.s (.string (dec n))) := by
  refine ⟨hfn, fun w ok vs hglb hvs => ?_⟩
  cases hvs with
  | cons a t => cases a; cases t with
    | cons b u =>
      cases b; cases u
      refine (hc n h0 h1 w (glb_tab hglb hg)).mono ?_
      rintro e w' ⟨rfl, k, os, rfl⟩
      exact ⟨_, rfl, Lib.below_grow _ _ (Nat.le_refl _) _ _, .s rfl⟩
theorem den_join {f : Nat} (hfn : ∃ fn, P.funcs[f]? = some fn ∧ (fn.name == "runtime.NumGoroutine") = false ∧ fn.body.isSome = true)
    (h0 : ∀ (a : Option Addr) (c : Nat) (sep : ByteArray) (w : World), Calls P f #[.slice a 0 c, .string sep] w fun e w' => e = .returned (.string ⟨#[]⟩) ∧ w' = w)
    (hj : ∀ (bk o c : Nat) (xs : List ByteArray) (sep : ByteArray) (w : World), (∀ (j : Nat) x, xs[j]? = some x → w.cell? ⟨bk, o + j, none⟩ = some (.string x)) → bk < w.heap.size → xs.length ≤ 140737488355328 → xs.length ≤ c →
      (Lib.join (xs.map (·.data.toList)) sep.data.toList).length ≤ 140737488355328 →
      Calls P f #[.slice (some ⟨bk, o, none⟩) xs.length c, .string sep] w fun e w' => e = .returned (.string ⟨(Lib.join (xs.map (·.data.toList)) sep.data.toList).toArray⟩) ∧ Below w.heap.size w w')
    (xs : List ByteArray) (sep : ByteArray) (hN : xs.length ≤ 140737488355328) (hlen : (Lib.join (xs.map (·.data.toList)) sep.data.toList).length ≤ 140737488355328) :
    Den P f [.lst 1 (xs.map stA), .s (.string sep)] (.s (.string (tx (Lib.join (xs.map (·.data.toList)) sep.data.toList)))) := by
  refine ⟨hfn, fun w ok vs hglb hvs => ?_⟩
  cases hvs with
  | cons a t => cases t with
    | cons b u =>
      cases b; cases u
      generalize hes : xs.map stA = es at a
      cases a with
      | lst0 =>
        have hx : xs = [] := by simpa using hes
        subst hx
        refine (h0 _ _ sep w).mono ?_
        rintro e w' ⟨rfl, rfl⟩
        exact ⟨_, rfl, Below.refl _ _, .s rfl⟩
      | lst hsz hc hs hk hb hd h1 hr =>
        rename_i ad c arr ty fr vs' rest
        subst hes
        have ev := reps_st hr
        subst ev
        have had : ad = ⟨ad.block, ad.off, none⟩ := by rw [← hs]
        rw [had, List.length_map]
        rw [List.length_map] at hc
        refine (hj ad.block ad.off c xs sep w (fun j x hx => ?_) (lt_of_heap hb) hN hc hlen).mono ?_
        · unfold World.cell?
          simp only [hb]
          have e : arr.toList[ad.off + j]? = some (.string x) := by
            rw [← List.getElem?_drop, hd, List.getElem?_append_left (by rw [List.length_map]; exact (List.getElem?_eq_some_iff.1 hx).1), List.getElem?_map, hx]; rfl
          simpa using e
        · rintro e w' ⟨rfl, hbl⟩
          exact ⟨_, rfl, hbl, .s rfl⟩
theorem den_splitN {f ty : Nat} (hfn : ∃ fn, P.funcs[f]? = some fn ∧ (fn.name == "runtime.NumGoroutine") = false ∧ fn.body.isSome = true) {g : Nat} (hg : P.globalNamed "internal/bytealg.MaxLen" = some g)
    (hc : ∀ (s sep : ByteArray) (n : Nat) (m : Int) (w : World), s.size < 4294967281 → w.cell? ⟨g, 0, none⟩ = some (.int .i64 m) → 1 ≤ sep.size → 1 ≤ n → n ≤ 9223372036854775807 →
      Calls P f #[.string s, .string sep, .int .i64 n] w fun e w' => e = .returned (.slice (some ⟨w.heap.size, 0, none⟩) (Lib.splitB sep 0 (min n (s.size + 1) - 1) s).length (min n (s.size + 1))) ∧
        w' = w.alloc (.cells (Lib.cellsOf (Lib.splitB sep 0 (min n (s.size + 1) - 1) s) (min n (s.size + 1))) ty))
    (s sep : ByteArray) (n : Nat) (hs : s.size ≤ 1048576) (h1 : 1 ≤ sep.size) (hn : 1 ≤ n) (hn2 : n ≤ 1000000) :
    Den P f [.s (.string s), .s (.string sep), .s (.int .i64 n)] (.lst 1 ((Lib.splitB sep 0 (min n (s.size + 1) - 1) s).map stA)) := by
  refine ⟨hfn, fun w ok vs hglb hvs => ?_⟩
  cases hvs with
  | cons a t => cases a; cases t with
    | cons b u => cases b; cases u with
      | cons c v =>
        cases c; cases v
        obtain ⟨m, hm⟩ := glb_len hglb hg
        refine (hc s sep n m w (by omega) hm h1 hn (by omega)).mono ?_
        rintro e w' ⟨rfl, rfl⟩
        have hle := Lib.splitB_length_le sep 0 (min n (s.size + 1) - 1) s
        refine ⟨_, rfl, (Below.refl _ _).alloc (Nat.le_refl _) _, ?_⟩
        rw [show (Lib.splitB sep 0 (min n (s.size + 1) - 1) s).length = ((Lib.splitB sep 0 (min n (s.size + 1) - 1) s).map stA).length by simp]
        refine Rep.lst (arr := Lib.cellsOf (Lib.splitB sep 0 (min n (s.size + 1) - 1) s) (min n (s.size + 1))) (ty := ty) (fr := (0, 0)) (vs := (Lib.splitB sep 0 (min n (s.size + 1) - 1) s).map Value.string) (rest := List.replicate (min n (s.size + 1) - (Lib.splitB sep 0 (min n (s.size + 1) - 1) s).length) (Value.string ByteArray.empty)) ?_ ?_ rfl (.inr (Nat.le_refl _)) ?_ ?_ ?_ (reps_st2 _)
        · intro e he
          obtain ⟨x, _, rfl⟩ := List.mem_map.1 he
          rfl
        · rw [List.length_map]; omega
        · exact heap_alloc_new w _
        · simp [Lib.cellsOf]
        · intro v hv
          obtain ⟨x, _, rfl⟩ := List.mem_map.1 hv
          rfl
theorem den_cut {f : Nat} (hfn : ∃ fn, P.funcs[f]? = some fn ∧ (fn.name == "runtime.NumGoroutine") = false ∧ fn.body.isSome = true) {g : Nat} (hg : P.globalNamed "internal/bytealg.MaxLen" = some g)
    (hc : ∀ (s sep : ByteArray) (m : Int) (w : World), s.size < 4294967281 → w.cell? ⟨g, 0, none⟩ = some (.int .i64 m) →
      Calls P f #[.string s, .string sep] w fun e w' => e = .returned (.tuple #[.string ⟨(Lib.cut s.data.toList sep.data.toList).1.toArray⟩, .string ⟨(Lib.cut s.data.toList sep.data.toList).2.1.toArray⟩, .bool (Lib.cut s.data.toList sep.data.toList).2.2]) ∧ ∃ n, w' = w.drewN n)
    (s sep : ByteArray) (hs : s.size ≤ 1048576) :
    Den P f [.s (.string s), .s (.string sep)] (.tup [.s (.string (tx (Lib.cut s.data.toList sep.data.toList).1)), .s (.string (tx (Lib.cut s.data.toList sep.data.toList).2.1)), .s (.bool (Lib.cut s.data.toList sep.data.toList).2.2)]) := by
  refine ⟨hfn, fun w ok vs hglb hvs => ?_⟩
  cases hvs with
  | cons a t => cases a; cases t with
    | cons b u =>
      cases b; cases u
      obtain ⟨m, hm⟩ := glb_len hglb hg
      refine (hc s sep m w (by omega) hm).mono ?_
      rintro e w' ⟨rfl, n, rfl⟩
      exact ⟨_, rfl, ⟨rfl, rfl, rfl, Nat.le_refl _, fun _ _ => rfl⟩, Rep.tup (vs := [_, _, _]) (.cons (.s rfl) (.cons (.s rfl) (.cons (.s rfl) .nil)))⟩
theorem den_trim {f : Nat} (hfn : ∃ fn, P.funcs[f]? = some fn ∧ (fn.name == "runtime.NumGoroutine") = false ∧ fn.body.isSome = true)
    (hc : ∀ (s p : ByteArray) (w : World), Calls P f #[.string s, .string p] w fun e w' => e = .returned (.string ⟨(Lib.trimPrefix s.data.toList p.data.toList).toArray⟩) ∧ w' = w)
    (s p : ByteArray) : Den P f [.s (.string s), .s (.string p)] (.s (.string (tx (Lib.trimPrefix s.data.toList p.data.toList)))) := by
  refine ⟨hfn, fun w ok vs hglb hvs => ?_⟩
  cases hvs with
  | cons a t => cases a; cases t with
    | cons b u =>
      cases b; cases u
      refine (hc s p w).mono ?_
      rintro e w' ⟨rfl, rfl⟩
      exact ⟨_, rfl, Below.refl _ _, .s rfl⟩
theorem den_parse {f te : Nat} (hfn : ∃ fn, P.funcs[f]? = some fn ∧ (fn.name == "runtime.NumGoroutine") = false ∧ fn.body.isSome = true) (s : ByteArray) (v : Int)
    (hc : ∀ w : World, Calls P f #[.string s, .int .i64 10, .int .i64 64] w fun e w' => e = .returned (.tuple #[.int .i64 v, .nilIface]) ∧ (w' = w ∨ ∃ t, w' = Lib.bytesWorld w te t)) :
    Den P f [.s (.string s), .s (.int .i64 10), .s (.int .i64 64)] (.tup [.s (.int .i64 v), .s .nilIface]) := by
  refine ⟨hfn, fun w ok vs hglb hvs => ?_⟩
  cases hvs with
  | cons a t => cases a; cases t with
    | cons b u => cases b; cases u with
      | cons c x =>
        cases c; cases x
        refine (hc w).mono ?_
        rintro e w' ⟨rfl, h⟩
        have hb : Below w.heap.size w w' := by
          rcases h with rfl | ⟨t, rfl⟩
          · exact Below.refl _ _
          · exact Joins.below_bytesWorld _ _ _ _ (Nat.le_refl _)
        exact ⟨_, rfl, hb, Rep.tup (vs := [_, _]) (.cons (.s rfl) (.cons (.s rfl) .nil))⟩
end
end Go.Proofs.YtdnndlalflahhaaGreatDoor.Ev
