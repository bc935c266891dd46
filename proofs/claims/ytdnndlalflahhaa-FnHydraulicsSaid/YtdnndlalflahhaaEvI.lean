/- The operations that make or write memory. -/
import Derived.Test.YtdnndlalflahhaaEvH
set_option linter.unusedVariables false
set_option linter.unusedSimpArgs false
namespace Go.Proofs.Ytdnndlalflahhaa.Ev
open Go Go.RowKit
theorem fillA_seq (sz n : Nat) : ∀ (vs : List AV) (k : Nat) (cs : List AV), (∀ v ∈ vs, (flat v).length = sz ∧ boxOk v = true) → k + vs.length ≤ n → cs.length = n * sz →
    fillA ((List.range n).map fun j => (j * sz, sz)) cs ((List.range' k vs.length).zip vs) = some (cs.take (k * sz) ++ flats vs ++ cs.drop ((k + vs.length) * sz)) := by
  intro vs
  induction vs with
  | nil => intro k cs _ _ _; simp [fillA, flats]
  | cons v vs ih =>
    intro k cs hv hk hc
    simp only [List.length_cons] at hk
    obtain ⟨hl, hb⟩ := hv v (by simp)
    have hle : (k + 1 + vs.length) * sz ≤ n * sz := Nat.mul_le_mul_right _ (by omega)
    have hle2 : (k + 1) * sz ≤ n * sz := Nat.mul_le_mul_right _ (by omega)
    have e1 : (k + 1) * sz = k * sz + sz := Nat.succ_mul _ _
    have hg : ((List.range n).map fun j => (j * sz, sz))[k]? = some (k * sz, sz) := by
      rw [List.getElem?_map, List.getElem?_range (by omega)]; rfl
    rw [List.length_cons, List.range'_succ, List.zip_cons_cons]
    unfold fillA
    simp only [hg]
    rw [if_pos ⟨hl, by rw [hc]; omega, hb⟩]
    rw [ih (k + 1) _ (fun u hu => hv u (by simp [hu])) (by omega) (by rw [splice_length (by rw [hl, hc]; omega)]; exact hc)]
    congr 1
    have hfl : flats (v :: vs) = flat v ++ flats vs := rfl
    have t1 : (splice cs (k * sz) (flat v)).take ((k + 1) * sz) = cs.take (k * sz) ++ flat v := by
      unfold splice
      rw [List.take_append_of_le_length (by rw [List.length_append, List.length_take, hc, hl]; omega), List.take_of_length_le (by rw [List.length_append, List.length_take, hc, hl]; omega)]
    have t2 : (splice cs (k * sz) (flat v)).drop ((k + 1 + vs.length) * sz) = cs.drop ((k + (vs.length + 1)) * sz) := by
      unfold splice
      have h3 : (k + 1 + vs.length) * sz = k * sz + sz + vs.length * sz := by rw [Nat.add_mul, e1]
      have h4 : (k + (vs.length + 1)) * sz = k * sz + sz + vs.length * sz := by rw [Nat.add_mul, Nat.succ_mul]; omega
      have hlen : (cs.take (k * sz) ++ flat v).length = k * sz + sz := by rw [List.length_append, List.length_take, hc, hl]; omega
      rw [List.drop_append, hlen, List.drop_eq_nil_of_le (by rw [hlen]; omega), List.nil_append, List.drop_drop, hl, h3, h4]
      congr 1; omega
    rw [t1, t2, hfl]
    simp
theorem zip_fst_snd {α β : Type} : ∀ (l : List (α × β)), (l.map (·.1)).zip (l.map (·.2)) = l
  | [] => rfl
  | (a, b) :: l => by simp [zip_fst_snd l]
def litQ (P : Program) (st : St) (d : Nat) (t : TypeId) (len : Nat) (parts : List (Nat × Operand)) (K : St → Prop) : Prop :=
  match tElem P t with
  | some (e, sz) => (match zeroA P e with
    | some z => z.length = sz ∧ parts.map (·.1) = List.range len ∧ len * sz ≤ 16777216 ∧ len ≤ maxLen ∧
        (parts.map fun p => st.ev p.2).all (fun v => decide ((flat v).length = sz) && boxOk v && isRO v) = true ∧ st.H d = none ∧
        K ((st.move none d (.row e sz (parts.map fun p => st.ev p.2))).put (some d) (.own d len))
    | none => False)
  | none => False
def zelem : List AV → AV
  | [c] => c
  | cs => .agg cs
def mkQ (P : Program) (st : St) (d : Nat) (t : TypeId) (l c : AV) (K : St → Prop) : Prop :=
  match tElem P t, l, c with
  | some (e, sz), .s (.int _ n), .s (.int _ m) => (match zeroA P e, P.info? e with
    | some z, some i => n ≤ m ∧ z.length = sz ∧ 0 ≤ n ∧ (i.bytes : Int) * m ≤ 281474976710656 ∧ m ≤ 9223372036854775807 ∧ st.H d = none ∧
        K ((st.move none d (.row e sz (List.replicate n.toNat (zelem z)))).put (some d) (.own d n.toNat))
    | _, _ => False)
  | _, _, _ => False
def setE (e : AV) (o : Nat) (y : AV) : AV :=
  match e with
  | .agg cs => .agg (splice cs o (flat y))
  | _ => y
def storeQ (P : Program) (st : St) (t : TypeId) (x y : AV) (K : St → Prop) : Prop :=
  match P.info? t with
  | some i => i.size = (flat y).length ∧ boxOk y = true ∧ (match x with
    | .ptr h o => (match st.H h with
      | some (.box ty cs) => o + (flat y).length ≤ cs.length ∧ K { st with H := upd st.H h (some (.box ty (splice cs o (flat y)))) }
      | _ => False)
    | .eptr h i o => (match st.H h with
      | some (.row ty sz es) => ∃ e, es[i]? = some e ∧ isRO y = true ∧ 0 < (flat y).length ∧ o + (flat y).length ≤ (flat e).length ∧ K { st with H := upd st.H h (some (.row ty sz (es.set i (setE e o y)))) }
      | _ => False)
    | _ => False)
  | none => False
def tApp (P : Program) (t : TypeId) : Option (Nat × Nat × Nat) :=
  match P.underlying t with
  | some (.slice e) => match P.info? e with
    | some i => match i.zero with
      | some z => if z.cells.size = i.size ∧ 0 < i.size then some (e, i.size, i.bytes) else none
      | none => none
    | none => none
  | _ => none
def elemsA (H : Nat → Option OB) (sz : Nat) : AV → Option (List AV)
  | .lst sz' es => if sz' = sz then some es else none
  | .nil => some []
  | .own h n => match H h with
    | some (.row _ sz' es) => if sz' = sz then some (es.take n) else none
    | _ => none
  | _ => none
def appQ (P : Program) (st : St) (d : Nat) (t : TypeId) (s x : AV) (K : St → Prop) : Prop :=
  match tApp P t with
  | some (e, sz, by_) => (match elemsA st.H sz x with
    | some news => (match s with
      | .nil => st.H d = none ∧ news.length ≤ maxLen ∧ news.length * by_ ≤ 140737488355328 ∧ K ((st.move none d (.row e sz news)).put (some d) (.own d news.length))
      | .own h n => (match st.H h with
        | some (.row e' sz' es) => e' = e ∧ sz' = sz ∧ n = es.length ∧ (st.H d = none ∨ h = d) ∧ es.length + news.length ≤ maxLen ∧ (es.length + news.length) * by_ ≤ 140737488355328 ∧
            K (((st.kill h).move (some h) d (.row e sz (es ++ news))).put (some d) (.own d (es.length + news.length)))
        | _ => False)
      | .osl h i n => (match st.H h with
        | some (.row e' sz' es) => e' = e ∧ sz' = sz ∧ i + n = es.length ∧ (st.H d = none ∨ h = d) ∧ es.length + news.length ≤ maxLen ∧ (es.length + news.length) * by_ ≤ 140737488355328 ∧
            ∀ W j, (W = es ++ news ∧ j = i ∨ W = es.drop i ++ news ∧ j = 0) → K (((st.kill h).move (some h) d (.row e sz W)).put (some d) (.osl d j (n + news.length)))
        | _ => False)
      | _ => False)
    | none => False)
  | none => False
section
variable {P : Program} {C : Ctx P} {st : St} {φ : Nat → Value} {a : Act} {w : World}
theorem grown_alloc (w : World) (o : Obj) : w.grownBy (w.alloc o) none := World.grownBy_alloc w o none
theorem okG_new {H : Nat → Option OB} {b : Nat} (h : okG C φ H b) : True := trivial
theorem GamW.newBox (g : GamW C st φ a w) {d : Nat} (hdn : d < 1000000) (hd : st.H d = none) {ty : TypeId} {cs : List AV} {arr : Array Value} (h1 : ∀ v ∈ arr.toList, v.oneCell' = true)
    (h2 : All2 (RepV φ st.H w (okG C φ st.H)) cs arr.toList) :
    GamW C (st.move none d (.box ty cs)) (upd φ d (.pointer (some ⟨w.heap.size, 0, none⟩))) a (w.alloc (.cells arr ty)) := by
  have hb : ∀ b, Blk (.pointer (some ⟨w.heap.size, 0, none⟩)) b → w.heap.size ≤ b ∨ ∃ h, (none : Option Nat) = some h ∧ (st.H h).isSome = true ∧ Blk (φ h) b := by
    intro b hb; simp [Blk, blkOf] at hb; exact .inl (by omega)
  refine g.move (fun h hs => by cases hs) (fun h hs => by cases hs) (.inl hd) (grown_alloc w _) (fun b hb => by cases hb) hb hdn
    ⟨w.heap.size, arr, rfl, heap_alloc_new w _, h1, h2.1, fun i x v hx hv => ?_⟩
  exact move_rep g (fun h hs => by cases hs) (fun h hs => by cases hs) (.inl hd) (grown_alloc w _) (fun b hb => by cases hb) hb (fun h hs => by cases hs) (h2.2 i x v hx hv)
theorem GamW.newRow (g : GamW C st φ a w) {d : Nat} (hdn : d < 1000000) (hd : st.H d = none) {e sz : Nat} {es : List AV} {xs : List Value} {w' : World} {fv : Value} (hg : w.grownBy w' none)
    (hfv : ∀ b, Blk fv b → w.heap.size ≤ b) (ho : OwnsR w' 0 e sz fv es.length xs) (hr : Reps w (okG C φ st.H) (flats es) xs) (h1 : ∀ x ∈ xs, x.oneCell' = true) (hsz : ∀ v ∈ es, (flat v).length = sz) :
    GamW C (st.move none d (.row e sz es)) (upd φ d fv) a w' := by
  have hb : ∀ b, Blk fv b → w.heap.size ≤ b ∨ ∃ h, (none : Option Nat) = some h ∧ (st.H h).isSome = true ∧ Blk (φ h) b := fun b hb => .inl (hfv b hb)
  refine g.move (fun h hs => by cases hs) (fun h hs => by cases hs) (.inl hd) hg (fun b hb => by cases hb) hb hdn ⟨xs, ho, ?_, h1, hsz⟩
  exact hr.mono (fun b hb' hlt => move_ok g hb (.inl hd) b hb' hlt) (fun b hb' hlt => hg.block b hlt (fun e => by cases e))
theorem own_new {P : Program} {C : Ctx P} {φ : Nat → Value} {d : Nat} {e sz n : Nat} {es : List AV} {fv : Value} {w' : World} {st : St} {src : Option Nat} (hn : es.length = n) {xs : List Value} (ho : OwnsR w' 0 e sz fv es.length xs) :
    RepV (upd φ d fv) (st.move src d (.row e sz es)).H w' (okG C (upd φ d fv) (st.move src d (.row e sz es)).H) (.own d n) fv := by
  subst hn
  rcases ho.cases with ⟨h0, -, A, h⟩ | ⟨gb, cap, cur, h, -⟩
  · exact ⟨e, sz, es, A, 0, 0, by simp [St.move, upd_same], by rw [upd_same, h], Nat.le_refl _, by rw [h, h0]⟩
  · exact ⟨e, sz, es, _, _, cap, by simp [St.move, upd_same], by rw [upd_same, h], Nat.le_refl _, by rw [h]⟩
theorem mem_made {z : Array Value} (hz : 0 < z.size) (n : Nat) : ∀ v ∈ (madeCells z n).toList, v ∈ z.toList := by
  intro v hv
  simp only [madeCells, Array.toList_map, List.mem_map] at hv
  obtain ⟨i, -, rfl⟩ := hv
  have hlt : i % z.size < z.size := Nat.mod_lt _ hz
  rw [getElem!_pos z (i % z.size) hlt]
  simp
theorem made_flat (z : Array Value) (n : Nat) : (madeCells z (n * z.size)).toList = (List.replicate n z.toList).flatten := by
  induction n with
  | zero => simp [madeCells]
  | succ n ih =>
    rw [List.replicate_succ', List.flatten_append, ← ih]
    simp only [madeCells, Array.toList_map, Array.toList_range, Nat.succ_mul, List.range_add, List.map_append, List.map_map, List.flatten_cons, List.flatten_nil, List.append_nil]
    congr 1
    apply List.ext_getElem?
    intro i
    rw [List.getElem?_map]
    by_cases h : i < z.size
    · rw [List.getElem?_range h]
      have : (n * z.size + i) % z.size = i := by rw [Nat.add_comm, Nat.add_mul_mod_self_right, Nat.mod_eq_of_lt h]
      simp [this, getElem!_pos z i h, h]
    · rw [List.getElem?_eq_none (by simp; omega)]
      simp; omega
theorem flat_zelem (z : List AV) (h : ∀ c ∈ z, one c = true) : flat (zelem z) = z := by
  unfold zelem
  split
  · rename_i c
    have := h c (by simp)
    cases c <;> first | rfl | (simp [one] at this)
  · rfl
theorem one_cellAV (v : Value) : one (cellAV v) = true ∧ isRO (cellAV v) = true := by
  unfold cellAV; split <;> exact ⟨rfl, rfl⟩
theorem flats_replicate (n : Nat) (z : AV) : flats (List.replicate n z) = (List.replicate n (flat z)).flatten := by
  induction n with
  | zero => rfl
  | succ n ih => rw [List.replicate_succ, List.replicate_succ, List.flatten_cons, ← ih]; rfl
theorem flat_take {α : Type} {l : List α} {n m : Nat} (h : n ≤ m) : ((List.replicate m l).flatten).take (n * l.length) = (List.replicate n l).flatten := by
  have e : List.replicate m l = List.replicate n l ++ List.replicate (m - n) l := by rw [List.replicate_append_replicate, show n + (m - n) = m by omega]
  have hl : (List.replicate n l).flatten.length = n * l.length := by simp
  rw [e, List.flatten_append, ← hl, List.take_left]
theorem Reps.repl {ok : Nat → Prop} {xs : List AV} {vs : List Value} (h : Reps w ok xs vs) (n : Nat) : Reps w ok (List.replicate n xs).flatten (List.replicate n vs).flatten := by
  induction n with
  | zero => simp; exact .nil
  | succ n ih => rw [List.replicate_succ, List.replicate_succ, List.flatten_cons, List.flatten_cons]; exact h.append ih
theorem elems_cells (g : GamW C st φ a w) {sz : Nat} {x : AV} {xv : Value} {news : List AV} (hx : RepV φ st.H w (okG C φ st.H) x xv) (h : elemsA st.H sz x = some news) :
    ∃ A c nv, xv = .slice A news.length c ∧ nv.length = news.length * sz ∧ (news ≠ [] → ∃ ad, A = some ad ∧ ∀ (j : Nat) u, nv[j]? = some u → w.cell? (ad.add j) = some u) ∧ (∀ u ∈ nv, u.oneCell' = true) ∧
      Reps w (okG C φ st.H) (flats news) nv ∧ ∀ e ∈ news, (flat e).length = sz := by
  cases x with
  | lst sz' es =>
    simp only [elemsA] at h
    split at h
    · rename_i e; subst e; cases h
      have h2 : Rep w (okG C φ st.H) (.lst _ _) xv := hx
      cases h2 with
      | lst0 => exact ⟨_, _, [], rfl, by simp, fun h => absurd rfl h, fun u hu => by simp at hu, .nil, fun e he => by simp at he⟩
      | lst hsz hc hs hk hb hd h1 hr =>
        rename_i ad c arr ty fr vs rest
        obtain ⟨b, o, sp⟩ := ad
        simp only at hs hk hb hd; subst hs
        have hcl : CellsAt w b o vs := ⟨arr, ty, fr, rest, hb, hd⟩
        exact ⟨_, c, vs, rfl, by rw [hr.length, flats_length hsz], fun _ => ⟨_, rfl, fun j u hu => by rw [add_none]; exact hcl.cell hu⟩, h1, hr, hsz⟩
    · cases h
  | nil =>
    simp only [elemsA, Option.some.injEq] at h
    subst h
    have h2 : Rep w (okG C φ st.H) .nil xv := hx
    cases h2 with
    | nil => exact ⟨_, _, [], rfl, by simp, fun h => absurd rfl h, fun u hu => by simp at hu, .nil, fun e he => by simp at he⟩
  | own k n =>
    simp only [elemsA] at h
    split at h
    · rename_i ty sz' es hH
      split at h
      · rename_i e; subst e; cases h
        obtain ⟨ty', sz2, es', A, m, c, hH', hφ, hn, rfl⟩ := hx
        rw [hH] at hH'; cases hH'
        obtain ⟨xs, hown, hr, h1, hsz⟩ := g.own _ _ hH
        have hln : (es.take n).length = n := by simp; omega
        rcases hown.cases with ⟨h0, hxs, A', h⟩ | ⟨g', cap, cur, h, hb, hg, hnc, hcm, hcs, ht⟩
        · have : n = 0 := by omega
          subst this
          simp only [List.take_zero]
          exact ⟨_, _, [], rfl, by simp, fun h => absurd rfl h, fun u hu => by simp at hu, .nil, fun e he => by simp at he⟩
        · rw [hφ] at h
          simp only [Value.slice.injEq] at h
          obtain ⟨rfl, rfl, rfl⟩ := h
          have hfl : flats (es.take n) = (flats es).take (n * sz') := by
            have hsp : flats es = flats (es.take n) ++ flats (es.drop n) := by
              rw [show flats (es.take n) ++ flats (es.drop n) = flats (es.take n ++ es.drop n) from List.flatMap_append.symm, List.take_append_drop]
            have hl2 : (flats (es.take n)).length = n * sz' := by
              rw [flats_length (fun e he => hsz e (List.mem_of_mem_take he)), hln]
            rw [hsp, ← hl2, List.take_left]
          have hcl : CellsAt w g' 0 xs := ⟨cur, ty, (0, 0), cur.toList.drop (es.length * sz'), hg, by rw [List.drop_zero, ← ht, List.take_append_drop]⟩
          refine ⟨_, c, xs.take (n * sz'), by rw [hln], ?_, fun _ => ⟨_, rfl, fun j u hu => ?_⟩, fun u hu => h1 u (List.mem_of_mem_take hu), by rw [hfl]; exact hr.take _, fun e he => hsz e (List.mem_of_mem_take he)⟩
          · rw [List.length_take, hown.length, hln]
            exact Nat.min_eq_left (Nat.mul_le_mul_right _ hn)
          · rw [add_none]
            rw [List.getElem?_take] at hu
            split at hu
            · exact hcl.cell hu
            · cases hu
      · cases h
    · cases h
  | _ => simp [elemsA] at h
theorem append_zero {t ty e : TypeId} {i : TypeInfo} (ht : P.underlying t = some (.slice e)) (hi : P.info? e = some i) (A B : Option Addr) (n c c' : Nat) (hc : n ≤ c) :
    (Builtin.append_ #[t, t] ty #[.slice A n c, .slice B 0 c']).run P w = .ok (.slice A n c) w := by
  cases A <;> cases B <;> simp [Builtin.append_, run_underlying ht, run_sizeOf' hi, Builtin.lenOf, hc, Builtin.firstCells, loadCells, loadCellsFrom, storeCells]
theorem app_own {t ty e : TypeId} {sz by_ : Nat} (hT : tApp P t = some (e, sz, by_)) {B : Nat} (hB : B ≤ w.heap.size) {v : Value} {n : Nat} {xs : List Value} (hown : OwnsR w B e sz v n xs)
    {A : Option Addr} {m c : Nat} {nv : List Value} (hl : nv.length = m * sz) (hc : m ≠ 0 → ∃ ad, A = some ad ∧ ∀ (j : Nat) u, nv[j]? = some u → w.cell? (ad.add j) = some u) (h1 : ∀ u ∈ nv, u.oneCell' = true)
    (h63 : n + m ≤ maxLen) (hby : (n + m) * by_ ≤ 140737488355328) :
    ∃ v' w', (Builtin.append_ #[t, t] ty #[v, .slice A m c]).run P w = .ok v' w' ∧ OwnsR w' B e sz v' (n + m) (xs ++ nv) ∧ w.grownBy w' (blkOf v) ∧ (∀ b, blkOf v' = some b → w.heap.size ≤ b ∨ blkOf v = some b) := by
  unfold tApp at hT
  split at hT
  · rename_i e' hu
    split at hT
    · rename_i i hi
      split at hT
      · rename_i z hz
        split at hT
        · rename_i hzs
          cases hT
          obtain ⟨hzs, hsz⟩ := hzs
          by_cases hm : m = 0
          · subst hm
            have hnv : nv = [] := List.eq_nil_of_length_eq_zero (by simpa using hl)
            subst hnv
            have hsl : ∃ A' c2, v = .slice A' n c2 ∧ n ≤ c2 := by
              rcases hown.cases with ⟨h0, -, A', h⟩ | ⟨g', cap, cur, h, -, -, hn, -⟩
              · exact ⟨A', 0, by rw [h, h0], by omega⟩
              · exact ⟨_, cap, h, hn⟩
            obtain ⟨A', c2, hv, hle⟩ := hsl
            refine ⟨v, w, ?_, by simpa using hown, ⟨rfl, rfl, rfl, Nat.le_refl _, fun _ _ _ => rfl⟩, fun b hb => .inr hb⟩
            rw [hv]; exact append_zero hu hi A' A n c2 c hle
          · obtain ⟨ad, rfl, hcell⟩ := hc hm
            have fresh : ∀ {A' : Option Addr}, n = 0 → xs = [] → v = .slice A' 0 0 → ∃ v' w', (Builtin.append_ #[t, t] ty #[v, .slice (some ad) m c]).run P w = .ok v' w' ∧ OwnsR w' B e i.size v' (n + m) (xs ++ nv) ∧ w.grownBy w' (blkOf v) ∧ (∀ b, blkOf v' = some b → w.heap.size ≤ b ∨ blkOf v = some b) := by
              intro A' h0 hx0 hv
              subst h0 hx0 hv
              have hsmall : m ≤ 9223372036854775807 := by simp only [maxLen] at h63; omega
              have hge := grownCap_ge w m 0 e
              have hcm : grownCap w m 0 e ≤ maxLen := grownCap_le_maxLen w m 0 e (by omega)
              have hrun : (Builtin.append_ #[t, t] ty #[.slice A' 0 0, .slice (some ad) m c]).run P w =
                  .ok (.slice (some ⟨w.heap.size, 0, none⟩) m (grownCap w m 0 e)) (w.drew.alloc (.cells (nv.toArray ++ Builtin.zeroCells z.cells (grownCap w m 0 e - m)) e)) := by
                cases A' with
                | none => exact run_append_nil w t ty e i z hu hi hz ad m c nv hl hcell (by omega) (by omega) (by simp only [Nat.zero_add] at hby; omega)
                | some b =>
                  have := run_append_grow (P := P) w t ty e i z hu hi hz b 0 0 [] (by simp) (fun j v hj => by simp at hj) ad m c nv hl hcell (by omega) (by omega) (by
                    simp only [Nat.zero_add] at hby ⊢
                    rw [nextslicecap_zero (by omega)]; omega)
                  simpa using this
              refine ⟨_, _, hrun, ?_, ⟨rfl, rfl, rfl, by simp, fun k hk _ => heap_alloc_old w.drew _ k hk⟩, fun b hb => .inl ?_⟩
              · refine .inl ⟨by simp [hl], .inr ⟨w.heap.size, _, _, by simp, hB, heap_alloc_new w.drew _, by omega, hcm, ?_, ?_⟩⟩
                · simp only [Array.size_append, List.size_toArray, size_zeroCells, hzs, hl, ← Nat.add_mul]
                  congr 1; omega
                · simp only [Array.toList_append, Nat.zero_add, List.nil_append]
                  rw [← hl]; exact List.take_left
              · have hpos : 0 < grownCap w m 0 e := by omega
                obtain ⟨q, hq⟩ : ∃ q, grownCap w m 0 e = q + 1 := ⟨grownCap w m 0 e - 1, by omega⟩
                rw [hq] at hb
                simp [blkOf] at hb; omega
            rcases hown.cases with ⟨h0, hx0, A', h⟩ | ⟨g', cap, cur, h, hb, hg, hn, hcm, hcs, ht⟩
            · exact fresh h0 hx0 h
            · cases cap with
              | zero =>
                have h0 : n = 0 := by omega
                exact fresh h0 (List.eq_nil_of_length_eq_zero (by rw [hown.length, h0]; simp)) (by rw [h, h0])
              | succ cap =>
                subst h
                have hbv : blkOf (.slice (some ⟨g', 0, none⟩) n (cap + 1)) = some g' := rfl
                by_cases hroom : n + m ≤ cap + 1
                · have hfit : n * i.size + nv.length ≤ cur.size := by rw [hl, hcs, ← Nat.add_mul]; exact Nat.mul_le_mul_right _ hroom
                  have hr := run_append_room (P := P) w t ty e i hu hi g' n (cap + 1) cur hg ad m c nv hl hcell h1 hroom hfit
                  have hlen : (xs ++ nv).length = (n + m) * i.size := by rw [List.length_append, hown.length, hl, Nat.add_mul]
                  refine ⟨_, _, hr, .inl ⟨hlen, .inr ⟨g', cap + 1, _, rfl, hb, setRow_heap w g' cur _ e _ hg, hroom, hcm, ?_, ?_⟩⟩, ⟨rfl, rfl, rfl, by simp, fun k _ hk => setRow_other w g' k _ (fun e => hk (by rw [e, hbv]))⟩, fun b hb' => .inr ?_⟩
                  · simp only [List.size_toArray, List.length_append, List.length_take, List.length_drop, Array.length_toList]
                    omega
                  · rw [ht, ← hlen]
                    exact List.take_left
                  · rw [hbv]; simpa [blkOf] using hb'
                · have hsmall : n + m ≤ 9223372036854775807 := by simp only [maxLen] at h63; omega
                  have hge := grownCap_ge w (n + m) (cap + 1) e
                  have hcm2 : grownCap w (n + m) (cap + 1) e ≤ maxLen := grownCap_le_maxLen w (n + m) (cap + 1) e h63
                  have holds : ∀ (j : Nat) u, xs[j]? = some u → w.cell? ((⟨g', 0, none⟩ : Addr).add j) = some u := by
                    intro j u hj
                    have hcl : CellsAt w g' 0 xs := ⟨cur, e, (0, 0), cur.toList.drop (n * i.size), hg, by rw [List.drop_zero, ← ht, List.take_append_drop]⟩
                    rw [add_none]; exact hcl.cell hj
                  have hr := run_append_grow (P := P) w t ty e i z hu hi hz ⟨g', 0, none⟩ n (cap + 1) xs hown.length holds ad m c nv hl hcell (by omega) (by omega) (growslice_fits (by omega) hby)
                  refine ⟨_, _, hr, .inl ⟨by rw [List.length_append, hown.length, hl, Nat.add_mul], .inr ⟨w.heap.size, _, _, rfl, hB, heap_alloc_new w.drew _, hge, hcm2, ?_, ?_⟩⟩, ⟨rfl, rfl, rfl, by simp, fun k hk _ => heap_alloc_old w.drew _ k hk⟩, fun b hb' => .inl ?_⟩
                  · simp only [Array.size_append, List.size_toArray, size_zeroCells, hzs, hown.length, hl, ← Nat.add_mul]
                    congr 1; omega
                  · simp only [Array.toList_append, List.append_assoc]
                    rw [← List.append_assoc, show (n + m) * i.size = (xs ++ nv).length by rw [List.length_append, hown.length, hl, Nat.add_mul]]
                    exact List.take_left
                  · obtain ⟨q, hq⟩ : ∃ q, grownCap w (n + m) (cap + 1) e = q + 1 := ⟨grownCap w (n + m) (cap + 1) e - 1, by omega⟩
                    rw [hq] at hb'
                    simp [blkOf] at hb'; omega
        · cases hT
      · cases hT
    · cases hT
  · cases hT
theorem tApp_some {t e sz by_ : Nat} (h : tApp P t = some (e, sz, by_)) : ∃ i z, P.underlying t = some (.slice e) ∧ P.info? e = some i ∧ i.zero = some z ∧ i.size = sz ∧ i.bytes = by_ ∧ z.cells.size = i.size ∧ 0 < i.size := by
  unfold tApp at h
  split at h
  · rename_i e' hu
    split at h
    · rename_i i hi
      split at h
      · rename_i z hz
        split at h
        · rename_i hzs
          cases h
          exact ⟨i, z, hu, hi, hz, rfl, rfl, hzs.1, hzs.2⟩
        · cases h
      · cases h
    · cases h
  · cases h
theorem run_append_roomAt (t ty e : TypeId) (i : TypeInfo) (ht : P.underlying t = some (.slice e)) (hi : P.info? e = some i)
    (g off sLen sCap : Nat) (cur : Array Value) (hg : w.heap[g]? = some (.cells cur e (0, 0)))
    (a : Addr) (m c : Nat) (news : List Value) (hl : news.length = m * i.size) (hnews : ∀ (j : Nat) u, news[j]? = some u → w.cell? (a.add j) = some u) (h1 : ∀ u ∈ news, u.oneCell' = true)
    (hroom : sLen + m ≤ sCap) (hfit : off + sLen * i.size + news.length ≤ cur.size) :
    (Builtin.append_ #[t, t] ty #[.slice (some ⟨g, off, none⟩) sLen sCap, .slice (some a) m c]).run P w =
      .ok (.slice (some ⟨g, off, none⟩) (sLen + m) sCap) (w.setRow g (cur.toList.take (off + sLen * i.size) ++ news ++ cur.toList.drop (off + sLen * i.size + news.length)).toArray) := by
  have hf := run_firstCells_some (P := P) w i.size m a m c news hl hnews
  have hst := run_storeCells_at P g (off + sLen * i.size) e news 0 cur w hg (by simpa using hfit) h1
  simp only [Nat.add_zero] at hst
  simp [Builtin.append_, run_underlying ht, sizeOf, typeInfo, hi, Builtin.lenOf, hroom, hf, Addr.add_lit, hst, add_none]
theorem app_part {t ty e : TypeId} {sz by_ : Nat} (hT : tApp P t = some (e, sz, by_)) {B : Nat} (hB : B ≤ w.heap.size) {g cap len : Nat} {cur : Array Value} {xs : List Value} (hBg : B ≤ g) (hg : w.heap[g]? = some (.cells cur e (0, 0)))
    (hlc : len ≤ cap) (hcm : cap ≤ maxLen) (hcs : cur.size = cap * sz) (ht : cur.toList.take (len * sz) = xs) {i n c' : Nat} (hin : i + n = len) (hc1 : n ≤ c') (hc2 : i + c' ≤ cap)
    {A : Option Addr} {m c : Nat} {nv : List Value} (hl : nv.length = m * sz) (hc : m ≠ 0 → ∃ ad, A = some ad ∧ ∀ (j : Nat) u, nv[j]? = some u → w.cell? (ad.add j) = some u) (h1 : ∀ u ∈ nv, u.oneCell' = true)
    (h63 : len + m ≤ maxLen) (hby : (len + m) * by_ ≤ 140737488355328) :
    (∃ w', (Builtin.append_ #[t, t] ty #[.slice (some ⟨g, i * sz, none⟩) n c', .slice A m c]).run P w = .ok (.slice (some ⟨g, i * sz, none⟩) (n + m) c') w' ∧ OwnsR w' B e sz (.slice (some ⟨g, 0, none⟩) (len + m) cap) (len + m) (xs ++ nv) ∧ w.grownBy w' (some g) ∧ n + m ≤ c') ∨
    (∃ w' q, (Builtin.append_ #[t, t] ty #[.slice (some ⟨g, i * sz, none⟩) n c', .slice A m c]).run P w = .ok (.slice (some ⟨w.heap.size, 0, none⟩) (n + m) q) w' ∧ OwnsR w' B e sz (.slice (some ⟨w.heap.size, 0, none⟩) (n + m) q) (n + m) (xs.drop (i * sz) ++ nv) ∧ w.grownBy w' (some g) ∧ n + m ≤ q ∧ 0 < m) := by
  obtain ⟨ti, z, hu, hi, hz, rfl, rfl, hzs, hsz⟩ := tApp_some hT
  have hxl : xs.length = len * ti.size := by
    rw [← ht, List.length_take, Array.length_toList (xs := cur), hcs]
    exact Nat.min_eq_left (Nat.mul_le_mul_right _ hlc)
  by_cases hm : m = 0
  · subst hm
    have hnv : nv = [] := List.eq_nil_of_length_eq_zero (by simpa using hl)
    subst hnv
    left
    refine ⟨w, append_zero hu hi _ A n c' c hc1, ?_, ⟨rfl, rfl, rfl, Nat.le_refl _, fun _ _ _ => rfl⟩, by omega⟩
    rw [Nat.add_zero, List.append_nil]
    exact .inl ⟨hxl, .inr ⟨g, cap, cur, rfl, hBg, hg, hlc, hcm, hcs, ht⟩⟩
  · obtain ⟨ad, rfl, hcell⟩ := hc hm
    by_cases hroom : n + m ≤ c'
    · left
      have e1 : i * ti.size + n * ti.size = len * ti.size := by rw [← Nat.add_mul, hin]
      have hfit : i * ti.size + n * ti.size + nv.length ≤ cur.size := by
        rw [e1, hl, hcs, ← Nat.add_mul]; exact Nat.mul_le_mul_right _ (by omega)
      have hr := run_append_roomAt (P := P) t ty e ti hu hi g (i * ti.size) n c' cur hg ad m c nv hl hcell h1 hroom hfit
      rw [e1] at hr hfit
      have hlen : (xs ++ nv).length = (len + m) * ti.size := by rw [List.length_append, hxl, hl, Nat.add_mul]
      refine ⟨_, hr, .inl ⟨hlen, .inr ⟨g, cap, _, rfl, hBg, setRow_heap w g cur _ e _ hg, by omega, hcm, ?_, ?_⟩⟩, ⟨rfl, rfl, rfl, by simp, fun k _ hk => setRow_other w g k _ (fun e => hk (by rw [e]))⟩, hroom⟩
      · simp only [List.size_toArray, List.length_append, List.length_take, List.length_drop, Array.length_toList]
        omega
      · rw [ht, ← hlen]
        exact List.take_left
    · right
      have hsmall : n + m ≤ 9223372036854775807 := by simp only [maxLen] at h63; omega
      have hge := grownCap_ge w (n + m) c' e
      have hcm2 : grownCap w (n + m) c' e ≤ maxLen := grownCap_le_maxLen w (n + m) c' e (by omega)
      have hol : (xs.drop (i * ti.size)).length = n * ti.size := by
        rw [List.length_drop, hxl, ← hin, Nat.add_mul]; omega
      have holds : ∀ (j : Nat) u, (xs.drop (i * ti.size))[j]? = some u → w.cell? ((⟨g, i * ti.size, none⟩ : Addr).add j) = some u := by
        intro j u hj
        rw [List.getElem?_drop] at hj
        have hcl : CellsAt w g 0 xs := ⟨cur, e, (0, 0), cur.toList.drop (len * ti.size), hg, by rw [List.drop_zero, ← ht, List.take_append_drop]⟩
        have := hcl.cell hj
        rw [add_none]
        simpa using this
      have hby2 : (n + m) * ti.bytes ≤ 140737488355328 := Nat.le_trans (Nat.mul_le_mul_right _ (by omega)) hby
      have hr := run_append_grow (P := P) w t ty e ti z hu hi hz ⟨g, i * ti.size, none⟩ n c' (xs.drop (i * ti.size)) hol holds ad m c nv hl hcell (by omega) (by omega) (growslice_fits (by omega) hby2)
      refine ⟨_, _, hr, .inl ⟨by rw [List.length_append, hol, hl, Nat.add_mul], .inr ⟨w.heap.size, _, _, rfl, hB, heap_alloc_new w.drew _, hge, hcm2, ?_, ?_⟩⟩, ⟨rfl, rfl, rfl, by simp, fun k hk _ => heap_alloc_old w.drew _ k hk⟩, hge, by omega⟩
      · simp only [Array.size_append, List.size_toArray, size_zeroCells, hzs, hol, hl, ← Nat.add_mul]
        congr 1; omega
      · simp only [Array.toList_append, List.append_assoc]
        rw [← List.append_assoc, show (n + m) * ti.size = (xs.drop (i * ti.size) ++ nv).length by rw [List.length_append, hol, hl, Nat.add_mul]]
        exact List.take_left
end
end Go.Proofs.Ytdnndlalflahhaa.Ev
