/- One operation: the abstract step is sound. -/
import Derived.Test.YtdnndlalflahhaaEvP
set_option linter.unusedVariables false
set_option linter.unusedSimpArgs false
namespace Go.Proofs.Ytdnndlalflahhaa.Ev
open Go Go.RowKit
def clrQ (P : Program) (st : St) (t : TypeId) (x : AV) (K : St → Prop) : Prop :=
  match tElem P t, x with
  | some (e, sz), .osl h i n => (match st.H h, zeroA P e with
    | some (.row ty sz' es), some z => sz' = sz ∧ z.length = sz ∧ K { st with H := upd st.H h (some (.row ty sz (es.take i ++ List.replicate n (zelem z) ++ es.drop (i + n)))) }
    | _, _ => False)
  | _, _ => False
def slLen : AV → Option Nat
  | .lst _ es => some es.length
  | .own _ n => some n
  | .osl _ _ n => some n
  | .nil => some 0
  | _ => none
def nilQ (P : Program) (st : St) (op : Op) (K : AV → Prop) : Prop :=
  match op with
  | .binOp .eql t x y _ => y = .const (.slice none 0 0) ∧ (tElem P t).isSome = true ∧ ∃ m, slLen (st.ev x) = some m ∧ ∀ b : Bool, (b = true → m = 0) → K (.s (.bool b))
  | _ => False
def callK (P : Program) (st : St) (o : Oper) (c : Call) (K : St → Prop) : Prop :=
  match c.callee, c.args.toList, c.argTypes.toList, o.dst with
  | .builtin .append, [s, x], [t, t'], some d => t = t' ∧ appQ P st d t (st.ev s) (st.ev x) K
  | .builtin .clear, [x], [t], _ => clrQ P st t (st.ev x) fun st' => K (st'.put o.dst (.tup []))
  | .value _, _, _, _ => (callQ P st c fun v => K (st.put o.dst v)) ∨ callXQ P st o c K
  | _, _, _, _ => biQ P st c fun v => K (st.put o.dst v)
def opK (P : Program) (st : St) (o : Oper) (K : St → Prop) : Prop :=
  match o.op, o.dst with
  | .box elem x, some d => st.H d = none ∧ boxOk (st.ev x) = true ∧ K ((st.move none d (.box elem (flat (st.ev x)))).put (some d) (.ptr d 0))
  | .alloc elem, some d => st.H d = none ∧ (match zeroA P elem with
    | some cs => K ((st.move none d (.box elem cs)).put (some d) (.ptr d 0))
    | none => False)
  | .build t parts, _ => buildQ P st t parts.toList fun v => K (st.put o.dst v)
  | .buildSlice t len parts, some d => litQ P st d t len parts.toList K
  | .makeSlice t l c, some d => mkQ P st d t (st.ev l) (st.ev c) K
  | .store t x y, _ => storeQ P st t (st.ev x) (st.ev y) fun st' => K (st'.put o.dst .junk)
  | .call c, _ => callK P st o c K
  | op, _ => (opQ0 P st op fun v => K (st.put o.dst v)) ∨ nilQ P st op fun v => K (st.put o.dst v)
section
variable {P : Program} {C : Ctx P} {st : St} {φ : Nat → Value} {a : Act} {w : World}
theorem run_storeVar {t : TypeId} {i : TypeInfo} (hi : P.info? t = some i) {g o : Nat} {ty : TypeId} {cur : Array Value} (hg : w.heap[g]? = some (.cells cur ty (0, 0))) {x : Value} (hs : x.cells.toList.length = i.size)
    (hl : o + x.cells.toList.length ≤ cur.toList.length) (h1 : ∀ v ∈ x.cells.toList, v.oneCell' = true) :
    (storeVar t ⟨g, o, none⟩ x).run P w = .ok () (w.setRow g (spliceV cur.toList o x.cells.toList).toArray) := by
  have hst := run_storeCells_at P g o ty x.cells.toList 0 cur w hg (by simpa using hl) h1
  simp only [Nat.add_zero] at hst
  have hs' : x.cells.size = i.size := by simpa using hs
  simp only [storeVar, Sem.run_bind, run_sizeOf' hi, Result.andThen_ok, hs', ne_eq, not_true_eq_false, if_false]
  simpa [spliceV] using hst
theorem splice_flats {es : List AV} {sz : Nat} (h : ∀ e ∈ es, (flat e).length = sz) {i : Nat} {e : AV} (hi : es[i]? = some e) {o : Nat} {y : AV} (hb : boxOk y = true) (hpos : 0 < (flat y).length) (ho : o + (flat y).length ≤ (flat e).length) :
    flats (es.set i (setE e o y)) = splice (flats es) (i * sz + o) (flat y) ∧ (flat (setE e o y)).length = sz := by
  have hlt : i < es.length := (List.getElem?_eq_some_iff.1 hi).1
  have he : (flat e).length = sz := h e (List.mem_of_getElem? hi)
  have hse : flat (setE e o y) = splice (flat e) o (flat y) := by
    cases e with
    | agg cs => rfl
    | _ =>
      have ho' : o + (flat y).length ≤ 1 := ho
      have h0 : o = 0 := by omega
      subst h0
      simp only [setE, splice, List.take_zero, List.nil_append]
      rw [List.drop_eq_nil_of_le (by show 1 ≤ 0 + (flat y).length; omega), List.append_nil]
  have hes : es = es.take i ++ e :: es.drop (i + 1) := by
    obtain ⟨_, he'⟩ := List.getElem?_eq_some_iff.1 hi
    rw [← he', List.getElem_cons_drop, List.take_append_drop]
  have hset : es.set i (setE e o y) = es.take i ++ setE e o y :: es.drop (i + 1) := by
    rw [List.set_eq_take_append_cons_drop, if_pos hlt]
  have hA : (flats (es.take i)).length = i * sz := by
    rw [flats_length (fun e he => h e (List.mem_of_mem_take he)), List.length_take]
    congr 1; omega
  refine ⟨?_, by rw [hse, splice_length ho, he]⟩
  have f1 : flats es = flats (es.take i) ++ (flat e ++ flats (es.drop (i + 1))) := by
    conv => lhs; rw [hes]
    simp [flats]
  have f2 : flats (es.set i (setE e o y)) = flats (es.take i) ++ (splice (flat e) o (flat y) ++ flats (es.drop (i + 1))) := by
    rw [hset]
    simp [flats, ← hse]
  rw [f2, f1]
  unfold splice
  have t1 : (flats (es.take i) ++ (flat e ++ flats (es.drop (i + 1)))).take (i * sz + o) = flats (es.take i) ++ (flat e).take o := by
    rw [List.take_append, hA, List.take_of_length_le (by rw [hA]; omega)]
    congr 1
    rw [show i * sz + o - i * sz = o by omega, List.take_append_of_le_length (by omega)]
  have t2 : (flats (es.take i) ++ (flat e ++ flats (es.drop (i + 1)))).drop (i * sz + o + (flat y).length) = (flat e).drop (o + (flat y).length) ++ flats (es.drop (i + 1)) := by
    rw [List.drop_append, hA, List.drop_eq_nil_of_le (by rw [hA]; omega), List.nil_append]
    rw [show i * sz + o + (flat y).length - i * sz = o + (flat y).length by omega, List.drop_append_of_le_length ho]
  rw [t1, t2]
  simp
theorem ownsR_set {B e sz n : Nat} {gb c : Nat} {xs ys : List Value} {cur : Array Value} {k : Nat} (h : OwnsR w B e sz (.slice (some ⟨gb, 0, none⟩) n c) n xs) (hg : w.heap[gb]? = some (.cells cur e (0, 0))) (hn : 0 < n)
    (hk : k + ys.length ≤ n * sz) :
    OwnsR (w.setRow gb (spliceV cur.toList k ys).toArray) B e sz (.slice (some ⟨gb, 0, none⟩) n c) n (spliceV xs k ys) := by
  rcases h.cases with ⟨h0, -⟩ | ⟨g', cap, cur', h', hb, hg', h1, h2, h3, h4⟩
  · omega
  · simp only [Value.slice.injEq, Option.some.injEq, Addr.mk.injEq] at h'
    obtain ⟨⟨rfl, -, -⟩, -, rfl⟩ := h'
    rw [hg] at hg'
    simp only [Option.some.injEq, Obj.cells.injEq] at hg'
    obtain ⟨rfl, -, -⟩ := hg'
    have hxl := h.length
    have hcl : n * sz ≤ cur.toList.length := by rw [Array.length_toList, h3]; exact Nat.mul_le_mul_right _ h1
    refine .inl ⟨?_, .inr ⟨gb, c, _, rfl, hb, setRow_heap w gb cur _ e _ hg, h1, h2, ?_, ?_⟩⟩
    · simp only [spliceV, List.length_append, List.length_take, List.length_drop]; omega
    · simp only [List.size_toArray, spliceV, List.length_append, List.length_take, List.length_drop, ← h3]
      simp only [Array.length_toList] at hcl ⊢; omega
    · simp only [spliceV]
      rw [← h4]
      have hsplit : cur.toList = cur.toList.take (n * sz) ++ cur.toList.drop (n * sz) := (List.take_append_drop _ _).symm
      have l1 : (cur.toList.take (n * sz)).length = n * sz := by rw [List.length_take]; omega
      have e1 : cur.toList.take k = (cur.toList.take (n * sz)).take k := by rw [List.take_take]; congr 1; omega
      have e2 : cur.toList.drop (k + ys.length) = (cur.toList.take (n * sz)).drop (k + ys.length) ++ cur.toList.drop (n * sz) := by
        conv => lhs; rw [hsplit]
        rw [List.drop_append_of_le_length (by rw [l1]; exact hk)]
      rw [e1, e2, ← List.append_assoc]
      have l2 : ((cur.toList.take (n * sz)).take k ++ ys ++ (cur.toList.take (n * sz)).drop (k + ys.length)).length = n * sz := by
        simp only [List.length_append, List.length_take, List.length_drop]; omega
      rw [List.take_append_of_le_length (by rw [l2]; exact Nat.le_refl _), List.take_of_length_le (by rw [l2]; exact Nat.le_refl _)]
theorem mem_splice {cs xs : List Value} {o : Nat} {v : Value} (h : v ∈ spliceV cs o xs) : v ∈ cs ∨ v ∈ xs := by
  simp only [spliceV, List.mem_append] at h
  rcases h with (h | h) | h
  · exact .inl (List.mem_of_mem_take h)
  · exact .inr h
  · exact .inl (List.mem_of_mem_drop h)
theorem setRow_grown (w : World) (gb : Nat) (cs : Array Value) : w.grownBy (w.setRow gb cs) (some gb) :=
  ⟨rfl, rfl, rfl, by simp [World.setRow], fun k _ hk => setRow_other w gb k _ (fun e => hk (by rw [e]))⟩
theorem storeQ_sound (g : GamW C st φ a w) {t : TypeId} {x y : AV} {xv yv : Value} (hx : RepV φ st.H w (okG C φ st.H) x xv) (hy : RepV φ st.H w (okG C φ st.H) y yv) {K : St → Prop} (h : storeQ P st t x y K) :
    ∃ st' w', K st' ∧ GamW C st' φ a w' ∧ (Instr.storeAt t xv yv).run P w = .ok () w' := by
  unfold storeQ at h
  split at h
  · rename_i i hi
    obtain ⟨hsz, hb, h⟩ := h
    obtain ⟨hyc, hy1⟩ := boxOk_cells hb hy
    have hlen : yv.cells.toList.length = i.size := by rw [hyc.1, hsz]
    split at h
    · rename_i k o
      split at h
      · rename_i ty cs hH
        obtain ⟨hle, hK⟩ := h
        obtain ⟨ty', cs', gb, hH', hφ, rfl⟩ := hx
        rw [hH] at hH'; cases hH'
        obtain ⟨g', arr, h1, h3, h4, h5⟩ := g.own _ _ hH
        rw [hφ] at h1
        simp only [Value.pointer.injEq, Option.some.injEq, Addr.mk.injEq] at h1
        obtain ⟨rfl, -, -⟩ := h1
        have hrun := run_storeVar (P := P) hi h3 hlen (o := o) (by rw [hyc.1, h5.1]; exact hle) hy1
        refine ⟨_, w.setRow gb (spliceV arr.toList o yv.cells.toList).toArray, hK, g.write hH (.inl ⟨_, _, _, rfl, rfl⟩) (by rw [hφ]; exact setRow_grown w gb _) (fun tr => ⟨gb, _, hφ, setRow_heap w gb arr _ ty _ h3, fun v hv => ?_, ?_⟩), by simpa [Instr.storeAt, Instr.sureAddr] using hrun⟩
        · rcases mem_splice (by simpa using hv) with hv | hv
          · exact h4 v hv
          · exact hy1 v hv
        · simpa using (h5.splice hyc o).mono tr
      · exact h.elim
    · rename_i k i o
      split at h
      · rename_i ty sz es hH
        obtain ⟨e, he, hro, hpos, hle, hK⟩ := h
        obtain ⟨ty', sz', es', gb, m, c, hH', hφ, hil, rfl⟩ := hx
        rw [hH] at hH'; cases hH'
        obtain ⟨xs, hown, hr, hx1, hes⟩ := g.own _ _ hH
        rw [hφ] at hown
        have hn : 0 < es.length := by omega
        obtain ⟨hfl, hfl2⟩ := splice_flats hes he hb hpos hle
        have hek : (flat e).length = sz := hes e (List.mem_of_getElem? he)
        have hpos2 : i * sz + o + (flat y).length ≤ es.length * sz := by
          have h1 : (i + 1) * sz ≤ es.length * sz := Nat.mul_le_mul_right _ hil
          rw [Nat.succ_mul] at h1; omega
        rcases hown.cases with ⟨h0, -⟩ | ⟨g', cap, cur, h', hB, hg, hn2, hcm, hcs, ht⟩
        · omega
        · simp only [Value.slice.injEq, Option.some.injEq, Addr.mk.injEq] at h'
          obtain ⟨⟨rfl, -, -⟩, rfl, rfl⟩ := h'
          have hcl : es.length * sz ≤ cur.toList.length := by rw [Array.length_toList (xs := cur), hcs]; exact Nat.mul_le_mul_right _ hn2
          have hrun := run_storeVar (P := P) hi hg hlen (o := i * sz + o) (by rw [hyc.1]; omega) hy1
          have hcap : 0 < c := by omega
          obtain ⟨q, hq⟩ : ∃ q, c = q + 1 := ⟨c - 1, by omega⟩
          have hblk : blkOf (φ k) = some gb := by rw [hφ, hq]; rfl
          refine ⟨_, w.setRow gb (spliceV cur.toList (i * sz + o) yv.cells.toList).toArray, hK, g.write hH (.inr ⟨_, _, _, _, rfl, rfl, by simp⟩) (by rw [hblk]; exact setRow_grown w gb _) (fun tr => ⟨spliceV xs (i * sz + o) yv.cells.toList, ?_, ?_, fun v hv => ?_, fun v hv => ?_⟩), by simpa [Instr.storeAt, Instr.sureAddr] using hrun⟩
          · rw [hφ, List.length_set]
            exact ownsR_set hown hg hn (by rw [hyc.1]; exact hpos2)
          · rw [hfl]
            have hnb : ∀ b, okG C φ st.H b → b < w.heap.size → (w.setRow gb (spliceV cur.toList (i * sz + o) yv.cells.toList).toArray).heap[b]? = w.heap[b]? := fun b hb' _ =>
              setRow_other w gb b _ (fun e => hb'.2 k (by rw [hH]; rfl) (.of (by rw [hblk, e])))
            have hry : Reps w (okG C φ st.H) (flat y) yv.cells.toList := ((RepV.ro hro).1 hy).flat
            have : Reps w (okG C φ st.H) (splice (flats es) (i * sz + o) (flat y)) (spliceV xs (i * sz + o) yv.cells.toList) := by
              unfold splice spliceV
              rw [hyc.1]
              exact ((hr.take _).append hry).append (hr.drop _)
            exact this.mono (fun b hb' _ => hb') hnb
          · rcases mem_splice hv with hv | hv
            · exact hx1 v hv
            · exact hy1 v hv
          · rcases List.mem_or_eq_of_mem_set hv with hv | rfl
            · exact hes v hv
            · exact hfl2
      · exact h.elim
    · exact h.elim
  · exact h.elim
theorem appQ_sound (g : GamW C st φ a w) {d : Nat} (hd : d < C.N) {t ty : TypeId} {s x : AV} {sv xv : Value} (hs : RepV φ st.H w (okG C φ st.H) s sv) (hx : RepV φ st.H w (okG C φ st.H) x xv) {K : St → Prop} (h : appQ P st d t s x K) :
    ∃ st' φ' w' r, K st' ∧ GamW C st' φ' (a.put (some d) r) w' ∧ (Builtin.append_ #[t, t] ty #[sv, xv]).run P w = .ok r w' := by
  unfold appQ at h
  split at h
  · rename_i e sz by_ hT
    split at h
    · rename_i news hnews
      obtain ⟨A, c, nv, rfl, hl, hc, h1, hr, hsz⟩ := elems_cells g hx hnews
      have hc' : news.length ≠ 0 → ∃ ad, A = some ad ∧ ∀ (j : Nat) u, nv[j]? = some u → w.cell? (ad.add j) = some u := fun h => hc (fun e => h (by rw [e]; rfl))
      split at h
      · obtain ⟨hH, h63, hby, hK⟩ := h
        have h2 : Rep w (okG C φ st.H) .nil sv := hs
        cases h2 with
        | nil =>
          rename_i A0
          obtain ⟨v', w', hrun, ho, hg, hb⟩ := app_own (P := P) (w := w) (ty := ty) hT (Nat.zero_le _) (v := .slice A0 0 0) (n := 0) (xs := []) (.inr ⟨rfl, rfl, _, rfl⟩) hl hc' h1 (by omega) (by rw [Nat.zero_add]; exact hby)
          have hbn : blkOf (.slice A0 0 0) = none := by cases A0 <;> rfl
          rw [hbn] at hg hb
          simp only [Nat.zero_add, List.nil_append] at ho
          have g2 := g.newRow (Nat.lt_of_lt_of_le hd C.small) hH hg (fun b hb' => (hb b (ho.blk hb')).resolve_right (fun e => by cases e)) ho hr h1 hsz
          exact ⟨_, _, _, v', hK, g2.put (own_new rfl ho) (some d) (fun d' e => by cases e; exact hd), hrun⟩
      · rename_i k n
        split at h
        · rename_i e' sz' es hH
          obtain ⟨rfl, rfl, rfl, hdd, h63, hby, hK⟩ := h
          obtain ⟨ty', sz', es', A', m, c', hH', hφ, hn, rfl⟩ := hs
          rw [hH] at hH'; cases hH'
          obtain ⟨xs, hown, hr2, hx1, hes⟩ := g.own _ _ hH
          have hm : m = es.length := by
            rcases hown.cases with ⟨h0, -, A2, h⟩ | ⟨g', cap, cur, h, -⟩
            · rw [hφ] at h; cases h; omega
            · rw [hφ] at h; cases h; rfl
          have hv : φ k = .slice A' es.length c' := by rw [hφ, hm]
          obtain ⟨v', w', hrun, ho, hg, hb⟩ := app_own (P := P) (w := w) (ty := ty) hT (Nat.zero_le _) hown hl hc' h1 h63 hby
          have gk := g.kill k
          have hHk : (st.kill k).H k = some (.row e' sz' es) := by simp [St.kill, hH, killO]
          have hbk : ∀ b, Blk v' b → w.heap.size ≤ b ∨ ∃ h, some k = some h ∧ ((st.kill k).H h).isSome = true ∧ Blk (φ h) b := fun b hb' => by
            rcases hb b (ho.blk hb') with h | h
            · exact .inl h
            · exact .inr ⟨k, rfl, by rw [hHk]; rfl, .of h⟩
          have hdk : (st.kill k).H d = none ∨ some k = some d := by
            rcases hdd with h | h
            · exact .inl (by simp [St.kill, h])
            · exact .inr (by rw [h])
          have hno : ∀ h, some k = some h → NoRef (st.kill k) h := fun h e => by cases e; exact NoRef.kill st k
          have hrw : ∀ h, some k = some h → ∃ ty sz es, (st.kill k).H h = some (.row ty sz es) := fun h e => by cases e; exact ⟨_, _, _, hHk⟩
          have hrow : ∀ b, blkOf (φ k) = some b → ∃ h, some k = some h ∧ Blk (φ h) b := fun b hb' => ⟨k, rfl, .of hb'⟩
          have hs' : ∀ q, ((st.kill k).H q).isSome = (st.H q).isSome := fun q => by simp [St.kill]
          have hok : okG C φ (st.kill k).H = okG C φ st.H := by funext b; simp only [okG, hs']
          have hlen2 : (es ++ news).length = es.length + news.length := List.length_append
          have g2 := gk.move (src := some k) (d := d) (ob := .row e' sz' (es ++ news)) (fv := v') hno hrw hdk hg hrow hbk (Nat.lt_of_lt_of_le hd C.small) ⟨xs ++ nv, by rw [hlen2]; exact ho, ?_, ?_, ?_⟩
          · refine ⟨_, _, _, v', hK, g2.put (own_new hlen2 (by rw [hlen2]; exact ho)) (some d) (fun d' e => by cases e; exact hd), ?_⟩
            rw [hv] at hrun
            have hn' : es.length = es.length := rfl
            exact hrun
          · have hall : Reps w (okG C φ (st.kill k).H) (flats (es ++ news)) (xs ++ nv) := by
              rw [hok, show flats (es ++ news) = flats es ++ flats news from List.flatMap_append]
              exact hr2.append hr
            exact hall.mono (fun b hb' hlt => move_ok gk hbk hdk b hb' hlt) (fun b hb' hlt => hg.block b hlt (fun e => hb'.2 k (by rw [hHk]; rfl) (.of e.symm)))
          · intro x hx
            rcases List.mem_append.1 hx with hx | hx
            · exact hx1 x hx
            · exact h1 x hx
          · intro x hx
            rcases List.mem_append.1 hx with hx | hx
            · exact hes x hx
            · exact hsz x hx
        · exact h.elim
      · rename_i k i n
        split at h
        · rename_i e' sz' es hH
          obtain ⟨rfl, rfl, hin, hdd, h63, hby, hK⟩ := h
          obtain ⟨ty', sz', es', A', m, c', A2, c2, hH', hφ, hn, rfl, hpos⟩ := hs
          rw [hH] at hH'; cases hH'
          obtain ⟨xs, hown, hr2, hx1, hes⟩ := g.own _ _ hH
          have gk := g.kill k
          have hHk : (st.kill k).H k = some (.row e' sz' es) := by simp [St.kill, hH, killO]
          have hdk : (st.kill k).H d = none ∨ some k = some d := by
            rcases hdd with h | h
            · exact .inl (by simp [St.kill, h])
            · exact .inr (by rw [h])
          have hno : ∀ h, some k = some h → NoRef (st.kill k) h := fun h e => by cases e; exact NoRef.kill st k
          have hrw : ∀ h, some k = some h → ∃ ty sz es, (st.kill k).H h = some (.row ty sz es) := fun h e => by cases e; exact ⟨_, _, _, hHk⟩
          have hs' : ∀ q, ((st.kill k).H q).isSome = (st.H q).isSome := fun q => by simp [St.kill]
          have hok : okG C φ (st.kill k).H = okG C φ st.H := by funext b; simp only [okG, hs']
          by_cases hz : n = 0 ∧ c2 = 0
          · obtain ⟨rfl, rfl⟩ := hz
            have hd0 : es.drop i = [] := List.drop_eq_nil_of_le (by omega)
            obtain ⟨v', w', hrun, ho, hg, hb⟩ := app_own (P := P) (w := w) (ty := ty) hT (Nat.zero_le _) (v := .slice A2 0 0) (n := 0) (xs := []) (.inr ⟨rfl, rfl, _, rfl⟩) hl hc' h1 (by omega) (by rw [Nat.zero_add]; exact Nat.le_trans (Nat.mul_le_mul_right _ (by omega)) hby)
            have hbn : blkOf (.slice A2 0 0) = none := by cases A2 <;> rfl
            rw [hbn] at hg hb
            simp only [Nat.zero_add, List.nil_append] at ho
            have hbk : ∀ b, Blk v' b → w.heap.size ≤ b ∨ ∃ h, some k = some h ∧ ((st.kill k).H h).isSome = true ∧ Blk (φ h) b := fun b hb' => .inl ((hb b (ho.blk hb')).resolve_right (fun e => by cases e))
            have g2 := gk.move (src := some k) (d := d) (ob := .row e' sz' news) (fv := v') hno hrw hdk hg (fun b hb' => by cases hb') hbk (Nat.lt_of_lt_of_le hd C.small) ⟨nv, ho, ?_, h1, hsz⟩
            · have hK2 := hK (es.drop i ++ news) 0 (.inr ⟨rfl, rfl⟩)
              rw [hd0, List.nil_append] at hK2
              refine ⟨_, _, _, v', hK2, g2.put (v := .osl d 0 (0 + news.length)) ?_ (some d) (fun d' e => by cases e; exact hd), hrun⟩
              rcases ho.cases with ⟨h0', -, a', rfl⟩ | ⟨g', cap, cur, rfl, hB, hg', hn2, hcm, hcs, ht⟩
              · exact ⟨_, _, _, _, _, _, _, _, upd_same _ _ _, upd_same _ _ _, by omega, by rw [h0'], fun h => by omega⟩
              · exact ⟨_, _, _, _, _, _, _, _, upd_same _ _ _, upd_same _ _ _, by omega, by rw [Nat.zero_add], fun _ => ⟨g', rfl, by rw [Nat.zero_mul], by omega, by omega⟩⟩
            · exact hr.mono (fun b hb' hlt => move_ok gk hbk hdk b (by rw [hok]; exact hb') hlt) (fun b hb' hlt => hg.block b hlt (fun e => by cases e))
          · obtain ⟨gb, rfl, rfl, hc1, hc2⟩ := hpos (by omega)
            rw [hφ] at hown
            rcases hown.cases with ⟨h0', -, a', h'⟩ | ⟨g', cap, cur, h', hB, hg', hn2, hcm, hcs, ht⟩
            · cases h'; omega
            · simp only [Value.slice.injEq, Option.some.injEq, Addr.mk.injEq] at h'
              obtain ⟨⟨rfl, -, -⟩, rfl, rfl⟩ := h'
              have hblk : blkOf (φ k) = some gb := by
                obtain ⟨q, hq⟩ : ∃ q, c' = q + 1 := ⟨c' - 1, by omega⟩
                rw [hφ, hq]; rfl
              have hrow : ∀ b, some gb = some b → ∃ h, some k = some h ∧ Blk (φ h) b := fun b hb' => ⟨k, rfl, .of (by rw [hblk]; exact hb')⟩
              have hne : ∀ b, okG C φ (st.kill k).H b → ¬ some gb = some b := fun b hb' e => hb'.2 k (by rw [hHk]; rfl) (.of (by rw [hblk]; exact e))
              have hone : ∀ {l : List Value}, (∀ x ∈ l, x ∈ xs) → ∀ x ∈ l ++ nv, x.oneCell' = true := fun hl x hx => by
                rcases List.mem_append.1 hx with hx | hx
                · exact hx1 x (hl x hx)
                · exact h1 x hx
              have hszs : ∀ {l : List AV}, (∀ x ∈ l, x ∈ es) → ∀ x ∈ l ++ news, (flat x).length = sz' := fun hl x hx => by
                rcases List.mem_append.1 hx with hx | hx
                · exact hes x (hl x hx)
                · exact hsz x hx
              rcases app_part (P := P) (ty := ty) (B := 0) hT (Nat.zero_le _) hB hg' hn2 hcm hcs ht hin hc1 hc2 hl hc' h1 h63 hby with ⟨w', hrun, ho, hg, hroom⟩ | ⟨w', q, hrun, ho, hg, hroom, hm0⟩
              · have hlen2 : (es ++ news).length = es.length + news.length := List.length_append
                have hbk : ∀ b, Blk (.slice (some ⟨gb, 0, none⟩) (es.length + news.length) c') b → w.heap.size ≤ b ∨ ∃ h, some k = some h ∧ ((st.kill k).H h).isSome = true ∧ Blk (φ h) b := fun b hb' => by
                  refine .inr ⟨k, rfl, by rw [hHk]; rfl, ?_⟩
                  obtain ⟨q, hq⟩ : ∃ q, c' = q + 1 := ⟨c' - 1, by omega⟩
                  refine .of ?_
                  rw [hblk]
                  rw [hq] at hb'
                  exact hb'
                have g2 := gk.move (src := some k) (d := d) (ob := .row e' sz' (es ++ news)) (fv := .slice (some ⟨gb, 0, none⟩) (es.length + news.length) c') hno hrw hdk hg hrow hbk (Nat.lt_of_lt_of_le hd C.small) ⟨xs ++ nv, by rw [hlen2]; exact ho, ?_, hone (fun x hx => hx), hszs (fun x hx => hx)⟩
                · refine ⟨_, _, _, _, hK (es ++ news) i (.inl ⟨rfl, rfl⟩), g2.put (v := .osl d i (n + news.length)) ⟨_, _, _, _, _, _, _, _, upd_same _ _ _, upd_same _ _ _, by rw [hlen2]; omega, rfl, fun _ => ⟨gb, rfl, rfl, hroom, hc2⟩⟩ (some d) (fun d' e => by cases e; exact hd), hrun⟩
                · have hall : Reps w (okG C φ (st.kill k).H) (flats (es ++ news)) (xs ++ nv) := by
                    rw [hok, show flats (es ++ news) = flats es ++ flats news from List.flatMap_append]
                    exact hr2.append hr
                  exact hall.mono (fun b hb' hlt => move_ok gk hbk hdk b hb' hlt) (fun b hb' hlt => hg.block b hlt (fun e => hne b hb' e.symm))
              · have hlen2 : (es.drop i ++ news).length = n + news.length := by rw [List.length_append, List.length_drop]; omega
                have hbk : ∀ b, Blk (.slice (some ⟨w.heap.size, 0, none⟩) (n + news.length) q) b → w.heap.size ≤ b ∨ ∃ h, some k = some h ∧ ((st.kill k).H h).isSome = true ∧ Blk (φ h) b := fun b hb' => by
                  obtain ⟨r, hq⟩ : ∃ r, q = r + 1 := ⟨q - 1, by omega⟩
                  rw [hq] at hb'
                  simp [Blk, blkOf] at hb'; exact .inl (by omega)
                have g2 := gk.move (src := some k) (d := d) (ob := .row e' sz' (es.drop i ++ news)) (fv := .slice (some ⟨w.heap.size, 0, none⟩) (n + news.length) q) hno hrw hdk hg hrow hbk (Nat.lt_of_lt_of_le hd C.small) ⟨xs.drop (i * sz') ++ nv, by rw [hlen2]; exact ho, ?_, hone (fun x hx => List.mem_of_mem_drop hx), hszs (fun x hx => List.mem_of_mem_drop hx)⟩
                · refine ⟨_, _, _, _, hK (es.drop i ++ news) 0 (.inr ⟨rfl, rfl⟩), g2.put (v := .osl d 0 (n + news.length)) ⟨_, _, _, _, _, _, _, _, upd_same _ _ _, upd_same _ _ _, by rw [hlen2]; omega, rfl, fun _ => ⟨w.heap.size, rfl, by rw [Nat.zero_mul], hroom, by omega⟩⟩ (some d) (fun d' e => by cases e; exact hd), hrun⟩
                · have hall : Reps w (okG C φ (st.kill k).H) (flats (es.drop i ++ news)) (xs.drop (i * sz') ++ nv) := by
                    rw [hok, show flats (es.drop i ++ news) = flats (es.drop i) ++ flats news from List.flatMap_append, ← flats_drop hes]
                    exact (hr2.drop _).append hr
                  exact hall.mono (fun b hb' hlt => move_ok gk hbk hdk b hb' hlt) (fun b hb' hlt => hg.block b hlt (fun e => hne b hb' e.symm))
        · exact h.elim
      · exact h.elim
    · exact h.elim
  · exact h.elim
theorem clrQ_sound (g : GamW C st φ a w) {t ty : TypeId} {x : AV} {xv : Value} (hx : RepV φ st.H w (okG C φ st.H) x xv) {K : St → Prop} (h : clrQ P st t x K) :
    ∃ st' w', K st' ∧ GamW C st' φ a w' ∧ (Builtin.clear_ #[t] ty #[xv]).run P w = .ok (.tuple #[]) w' := by
  unfold clrQ at h
  split at h
  · rename_i e sz k i n hT
    split at h
    · rename_i ty2 sz' es z hH hz
      obtain ⟨rfl, hzl, hK⟩ := h
      obtain ⟨hu, info, hi, his⟩ := tElem_some hT
      obtain ⟨i', zv, hi', hzz, hz1, rfl⟩ := zeroA_some hz
      rw [hi] at hi'; cases hi'
      obtain ⟨ty', sz', es', A, m, c, A', c', hH', hφ, hn, rfl, hpos⟩ := hx
      rw [hH] at hH'; cases hH'
      have hzsz : zv.cells.size = sz' := by simpa using hzl
      rcases Nat.eq_zero_or_pos n with h0 | h0
      · subst h0
        have hes : es.take i ++ List.replicate 0 (zelem (zv.cells.toList.map cellAV)) ++ es.drop (i + 0) = es := by simp
        rw [hes] at hK
        have hupd : upd st.H k (some (.row ty2 sz' es)) = st.H := by
          funext j
          by_cases e : j = k
          · subst e; rw [upd_same, hH]
          · rw [upd_ne _ _ e]
        rw [hupd] at hK
        refine ⟨_, w, hK, g, ?_⟩
        cases A' <;> simp [Builtin.clear_, run_underlying hu]
      · obtain ⟨gb, rfl, rfl, hc'⟩ := hpos (.inl h0)
        obtain ⟨xs, hown, hr, hx1, hes⟩ := g.own _ _ hH
        rw [hφ] at hown
        rcases hown.cases with ⟨h0', -⟩ | ⟨g', cap, cur, h', hB, hg, hn2, hcm, hcs, ht⟩
        · omega
        · simp only [Value.slice.injEq, Option.some.injEq, Addr.mk.injEq] at h'
          obtain ⟨⟨rfl, -, -⟩, rfl, rfl⟩ := h'
          have hone : ∀ c ∈ zv.cells.toList.map cellAV, one c = true := by
            intro c hc
            obtain ⟨v, -, rfl⟩ := List.mem_map.1 hc
            exact (one_cellAV v).1
          have hfz : flat (zelem (zv.cells.toList.map cellAV)) = zv.cells.toList.map cellAV := flat_zelem _ hone
          let ys : List Value := (List.replicate n zv.cells.toList).flatten
          have hyl : ys.length = n * sz' := by simp only [ys, List.length_flatten, List.map_replicate, List.sum_replicate_nat, Array.length_toList, hzsz]
          have hy1 : ∀ v ∈ ys, v.oneCell' = true := by
            intro v hv
            obtain ⟨l', hl', hx'⟩ := List.mem_flatten.1 hv
            rw [(List.mem_replicate.1 hl').2] at hx'
            exact List.all_eq_true.1 hz1 v hx'
          have hyr : Reps w (okG C φ st.H) (flats (List.replicate n (zelem (zv.cells.toList.map cellAV)))) ys := by
            rw [flats_replicate, hfz]; exact (Reps.cells _ hz1).repl _
          have hcl : es.length * sz' ≤ cur.toList.length := by rw [Array.length_toList (xs := cur), hcs]; exact Nat.mul_le_mul_right _ hn2
          have hin : i * sz' + n * sz' ≤ es.length * sz' := by rw [← Nat.add_mul]; exact Nat.mul_le_mul_right _ hn
          have hst := run_storeCells_at P gb (i * sz') ty2 ys 0 cur w hg (by rw [hyl]; simp only [Array.length_toList] at hcl; omega) hy1
          simp only [Nat.add_zero] at hst
          have hrow : (cur.toList.take (i * sz') ++ ys ++ cur.toList.drop (i * sz' + ys.length)) = spliceV cur.toList (i * sz') ys := rfl
          rw [hrow] at hst
          have hcap : 0 < c := by omega
          obtain ⟨q, hq⟩ : ∃ q, c = q + 1 := ⟨c - 1, by omega⟩
          have hblk : blkOf (φ k) = some gb := by rw [hφ, hq]; rfl
          have hmade : (Builtin.zeroCells zv.cells n).toList = ys := made_flat _ _
          have hrun : (Builtin.clear_ #[t] ty #[.slice (some ⟨gb, i * sz', none⟩) n c']).run P w = .ok (.tuple #[]) (w.setRow gb (spliceV cur.toList (i * sz') ys).toArray) := by
            have hzv : (zeroValue e).run P w = .ok zv w := by simp [zeroValue, typeInfo, hi, hzz]
            obtain ⟨q2, rfl⟩ : ∃ q2, n = q2 + 1 := ⟨n - 1, by omega⟩
            have hz2 : ∀ u, (Builtin.zeroCells zv.cells (q2 + 1)).toList = u → ys = u := fun u hu => hmade.symm.trans hu
            simp [Builtin.clear_, run_underlying hu, hzv, hmade, hst]
          have hlen2 : (es.take i ++ List.replicate n (zelem (zv.cells.toList.map cellAV)) ++ es.drop (i + n)).length = es.length := by simp; omega
          refine ⟨_, _, hK, g.write hH (.inr ⟨_, _, _, _, rfl, rfl, hlen2.symm⟩) (by rw [hblk]; exact setRow_grown w gb _) (fun tr => ⟨spliceV xs (i * sz') ys, ?_, ?_, fun v hv => ?_, fun v hv => ?_⟩), hrun⟩
          · rw [hφ, hlen2]
            exact ownsR_set hown hg (by omega) (by rw [hyl]; exact hin)
          · have hfl : flats (es.take i ++ List.replicate n (zelem (zv.cells.toList.map cellAV)) ++ es.drop (i + n)) = (flats es).take (i * sz') ++ flats (List.replicate n (zelem (zv.cells.toList.map cellAV))) ++ (flats es).drop ((i + n) * sz') := by
              rw [flats_drop hes, ← flats_take hes (by omega)]
              simp [flats]
            rw [hfl]
            have hnb : ∀ b, okG C φ st.H b → b < w.heap.size → (w.setRow gb (spliceV cur.toList (i * sz') ys).toArray).heap[b]? = w.heap[b]? := fun b hb' _ =>
              setRow_other w gb b _ (fun e => hb'.2 k (by rw [hH]; rfl) (.of (by rw [hblk, e])))
            have : Reps w (okG C φ st.H) ((flats es).take (i * sz') ++ flats (List.replicate n (zelem (zv.cells.toList.map cellAV))) ++ (flats es).drop ((i + n) * sz')) (spliceV xs (i * sz') ys) := by
              unfold spliceV
              rw [hyl, ← Nat.add_mul]
              exact ((hr.take _).append hyr).append (hr.drop _)
            exact this.mono (fun b hb' _ => hb') hnb
          · rcases mem_splice hv with hv | hv
            · exact hx1 v hv
            · exact hy1 v hv
          · rcases List.mem_append.1 hv with hv | hv
            · rcases List.mem_append.1 hv with hv | hv
              · exact hes v (List.mem_of_mem_take hv)
              · rw [(List.mem_replicate.1 hv).2, hfz]; simpa using hzsz
            · exact hes v (List.mem_of_mem_drop hv)
    · exact h.elim
  · exact h.elim
theorem slLen_slice (g : GamW C st φ a w) {x : AV} {xv : Value} {m : Nat} (hx : RepV φ st.H w (okG C φ st.H) x xv) (h : slLen x = some m) : ∃ A c, xv = .slice A m c ∧ (A = none → m = 0) := by
  cases x with
  | lst sz es =>
    simp only [slLen, Option.some.injEq] at h; subst h
    have h2 : Rep w (okG C φ st.H) (.lst sz es) xv := hx
    cases h2 with
    | lst0 => exact ⟨_, _, rfl, fun _ => rfl⟩
    | lst => exact ⟨_, _, rfl, fun h => by cases h⟩
  | own k n =>
    simp only [slLen, Option.some.injEq] at h; subst h
    obtain ⟨ty, sz, es, A, m, c, hH, hφ, hn, rfl⟩ := hx
    refine ⟨_, _, rfl, fun h => ?_⟩
    subst h
    obtain ⟨xs, hown, -⟩ := g.own _ _ hH
    rcases hown.cases with ⟨h0, -⟩ | ⟨g', cap, cur, h, -⟩
    · omega
    · rw [hφ] at h; cases h
  | osl k i n =>
    simp only [slLen, Option.some.injEq] at h; subst h
    obtain ⟨ty, sz, es, A, m, c, A', c', hH, hφ, hn, rfl, hpos⟩ := hx
    refine ⟨_, _, rfl, fun h => ?_⟩
    subst h
    rcases Nat.eq_zero_or_pos n with h | h
    · exact h
    · obtain ⟨_, _, h, _⟩ := hpos (.inl h); cases h
  | nil =>
    simp only [slLen, Option.some.injEq] at h; subst h
    have h2 : Rep w (okG C φ st.H) .nil xv := hx
    cases h2 with
    | nil => exact ⟨_, _, rfl, fun _ => rfl⟩
  | _ => simp [slLen] at h
theorem run_eqNil {t e : TypeId} (hu : P.underlying t = some (.slice e)) (A : Option Addr) (n c : Nat) (ox oy : Operand) (w : World) :
    (do eqGuard .eql t ox oy (.slice A n c) (.slice none 0 0); binOp .eql t (.slice A n c) (.slice none 0 0) : Sem Value).run P w = .ok (.bool A.isNone) w := by
  have h1 : (Op.equal t (.slice A n c) (.slice none 0 0)).run P w = .ok A.isNone w := by
    show (Op.equalIn (9999 + 1) t (.slice A n c) (.slice none 0 0)).run P w = _
    unfold Op.equalIn
    cases A <;> simp [run_underlying hu]
  have h2 : (binOp .eql t (.slice A n c) (.slice none 0 0)) = (do pure (.bool (← Op.equal t (.slice A n c) (.slice none 0 0))) : Sem Value) := rfl
  have hg : (eqGuard .eql t ox oy (.slice A n c) (.slice none 0 0)).run P w = .ok () w := by simp [eqGuard]
  rw [Sem.run_bind, hg, Result.andThen_ok, h2, Sem.run_bind, h1]; rfl
theorem opK_step (g : GamW C st φ a w) {o : Oper} (hN : ∀ d, o.dst = some d → d < C.N) {K : St → Prop} (h : opK P st o K) {next : Act → World → Prop} {Q : Exit → Act → World → Prop}
    (hn : ∀ st' a' w', K st' → Gam C st' a' w' → next a' w') : o.wp P a w next Q := by
  have val : ∀ {r : Value} {st' : St} {φ' : Nat → Value} {w' : World}, (execOp a.eval o).run P w = .ok (.value r) w' → K st' → GamW C st' φ' (a.put o.dst r) w' → o.wp P a w next Q := by
    intro r st' φ' w' hr hK hg
    unfold Oper.wp
    rw [hr]
    exact hn _ _ _ hK ⟨φ', hg⟩
  have plainQ : ∀ {op : Op}, o.op = op → (opQ0 P st op fun v => K (st.put o.dst v)) → o.wp P a w next Q := by
    intro op ho h
    obtain ⟨v, r, h1, h2, h3⟩ := opQ0_sound g ho h
    exact val h3 h1 (g.put h2 o.dst hN)
  unfold opK at h
  split at h
  · rename_i elem x d ho hd
    obtain ⟨hH, hb, hK⟩ := h
    obtain ⟨h2, h1⟩ := boxOk_cells hb (g.ev x)
    have g2 := g.newBox (Nat.lt_of_lt_of_le (hN _ hd) C.small) hH (ty := elem) h1 h2
    have g3 := g2.put (v := .ptr d 0) (x := .pointer (some ⟨w.heap.size, 0, none⟩)) ⟨elem, flat (st.ev x), w.heap.size, by simp [St.move, upd_same], by rw [upd_same], rfl⟩ o.dst hN
    rw [hd] at g3
    refine val (r := .pointer (some ⟨w.heap.size, 0, none⟩)) (w' := w.alloc (.cells (a.eval x).cells elem)) ?_ hK (by rw [hd]; exact g3)
    simp [execOp, ho, Instr.box, newVar, newRow]
  · rename_i elem d ho hd
    obtain ⟨hH, h⟩ := h
    split at h
    · rename_i cs hz
      obtain ⟨i, z, hi, hzz, hz1, rfl⟩ := zeroA_some hz
      have g2 := g.newBox (Nat.lt_of_lt_of_le (hN _ hd) C.small) hH (ty := elem) (arr := z.cells) (List.all_eq_true.1 hz1) (.of_reps (Reps.cells _ hz1))
      have g3 := g2.put (v := .ptr d 0) (x := .pointer (some ⟨w.heap.size, 0, none⟩)) ⟨elem, z.cells.toList.map cellAV, w.heap.size, by simp [St.move, upd_same], by rw [upd_same], rfl⟩ o.dst hN
      rw [hd] at g3
      refine val (r := .pointer (some ⟨w.heap.size, 0, none⟩)) (w' := w.alloc (.cells z.cells elem)) ?_ h (by rw [hd]; exact g3)
      simp [execOp, ho, Instr.alloc, zeroValue, typeInfo, hi, hzz, newVar, newRow]
    · exact h.elim
  · rename_i t parts ho
    obtain ⟨v, r, h1, h2, h3⟩ := buildQ_sound g h
    exact val (by simp [execOp, ho] at h3 ⊢; simp [h3]) h1 (g.put h2 o.dst hN)
  · rename_i t len parts d ho hd
    unfold litQ at h
    split at h
    · rename_i e sz hT
      split at h
      · rename_i z hz
        obtain ⟨hzl, hidx, hle, hml, hall, hH, hK⟩ := h
        obtain ⟨hu, i, hi, his⟩ := tElem_some hT
        obtain ⟨i', zv, hi', hzz, hz1, rfl⟩ := zeroA_some hz
        rw [hi] at hi'; cases hi'
        have hzsz : zv.cells.size = sz := by simpa using hzl
        let es := parts.toList.map fun p => st.ev p.2
        have hes : ∀ v ∈ es, (flat v).length = sz ∧ boxOk v = true ∧ isRO v = true := by
          intro v hv
          have := List.all_eq_true.1 hall v hv
          simp only [Bool.and_eq_true, decide_eq_true_eq] at this
          exact ⟨this.1.1, this.1.2, this.2⟩
        have hlen : es.length = len := by have := congrArg List.length hidx; simpa [es] using this
        obtain ⟨hk, hv⟩ := parts_rep g parts.toList
        let zc : Array Value := if len * sz = 0 then #[] else zv.cells
        let cells : Array Value := (Array.range (len * sz)).map (zc[· % zc.size]!)
        have hcells1 : ∀ c ∈ cells.toList, c.oneCell' = true := by
          intro c hc
          by_cases h0 : len * sz = 0
          · simp [cells, h0] at hc
          · have hsz0 : 0 < sz := by rcases Nat.eq_zero_or_pos sz with h | h; · simp [h] at h0
                                     · exact h
            have : c ∈ zv.cells.toList := by
              have hm := mem_made (z := zv.cells) (by omega) (len * sz) c
              refine hm ?_
              simpa [cells, zc, h0, madeCells] using hc
            exact List.all_eq_true.1 hz1 c this
        have hcells : All2 (RepV φ st.H w (okG C φ st.H)) (cells.toList.map cellAV) cells.toList := .of_reps (Reps.cells _ (List.all_eq_true.2 hcells1))
        have hfa := fillA_seq sz len es 0 (cells.toList.map cellAV) (fun v hv => ⟨(hes v hv).1, (hes v hv).2.1⟩) (by omega) (by simp [cells])
        have hzip : (List.range' 0 es.length).zip es = parts.toList.map fun p => (p.1, st.ev p.2) := by
          rw [hlen, ← List.range_eq_range', ← hidx]
          have := zip_fst_snd (parts.toList.map fun p => (p.1, st.ev p.2))
          simpa [es, List.map_map, Function.comp_def] using this
        rw [hzip] at hfa
        have hres : (cells.toList.map cellAV).take (0 * sz) ++ flats es ++ (cells.toList.map cellAV).drop ((0 + es.length) * sz) = flats es := by
          rw [List.drop_eq_nil_of_le (by simp [cells, hlen])]; simp
        rw [hres] at hfa
        obtain ⟨arr, hfill, har, har1⟩ := fillA_sound (place := fun j => some (j * sz, sz)) (fun j p hj => by
            rw [List.getElem?_map] at hj
            cases hr : (List.range len)[j]? with
            | none => rw [hr] at hj; cases hj
            | some k =>
              rw [hr] at hj
              have : k = j := by
                obtain ⟨hlt, he⟩ := List.getElem?_eq_some_iff.1 hr
                simpa using he.symm
              subst this; simpa using hj) _ _ _ _ cells hfa hcells hcells1 hk hv
        have hro : (flats es).all isRO = true := by
          rw [List.all_eq_true]
          intro c hc
          obtain ⟨v, hv', hcv⟩ := List.mem_flatMap.1 hc
          obtain ⟨_, hb, hr⟩ := hes v hv'
          cases v <;> first
            | (simp only [flat, List.mem_singleton] at hcv; subst hcv; exact hr)
            | (simp only [Ev.isRO, isROs_all] at hr; exact List.all_eq_true.1 hr c hcv)
        have hfl : (flats es).length = len * sz := by rw [flats_length (fun e he => (hes e he).1), hlen]
        have harl : arr.size = len * sz := by have := har.1; simpa [hfl] using this
        have hown : OwnsR (w.alloc (.cells arr e)) 0 e sz (.slice (some ⟨w.heap.size, 0, none⟩) len len) es.length arr.toList :=
          .inl ⟨by rw [hlen]; simpa using harl, .inr ⟨w.heap.size, len, arr, by rw [hlen], Nat.zero_le _, heap_alloc_new w _, by omega, hml, harl, by rw [hlen, List.take_of_length_le (by simp [harl])]⟩⟩
        have g2 := g.newRow (Nat.lt_of_lt_of_le (hN _ hd) C.small) hH (grown_alloc w _) (fun b hb => by cases len <;> simp [Blk, blkOf] at hb; omega) hown (har.reps hro) har1 (fun v hv => (hes v hv).1)
        have g3 := g2.put (own_new hlen hown) o.dst hN
        rw [hd] at g3
        refine val (r := .slice (some ⟨w.heap.size, 0, none⟩) len len) (w' := w.alloc (.cells arr e)) ?_ hK (by rw [hd]; exact g3)
        have hpl : (parts.map fun (p : Nat × Operand) => (p.1, a.eval p.2)).toList = parts.toList.map fun p => (p.1, a.eval p.2) := by simp
        have h24 : ¬ len * sz > 2 ^ 24 := by omega
        have hmid : (Instr.buildSlice t len (parts.map fun (p : Nat × Operand) => (p.1, a.eval p.2))).run P w = .ok (.slice (some ⟨w.heap.size, 0, none⟩) len len) (w.alloc (.cells arr e)) := by
          unfold Instr.buildSlice
          rw [Sem.run_bind, run_underlying hu, Result.andThen_ok]
          simp only []
          rw [Sem.run_bind, run_sizeOf' hi, Result.andThen_ok, his, if_neg h24]
          by_cases h0 : len * sz = 0
          · have hfill' : Instr.fill (fun i => some (i * sz, sz)) ((Array.range (len * sz)).map ((#[] : Array Value)[· % (#[] : Array Value).size]!)) (parts.toList.map fun p => (p.1, a.eval p.2)) = some arr := by
              have := hfill
              simp only [cells, zc, if_pos h0] at this
              exact this
            rw [if_pos h0, Sem.run_bind, Sem.run_pure, Result.andThen_ok, hpl]
            simp only [hfill']
            rfl
          · have hfill' : Instr.fill (fun i => some (i * sz, sz)) ((Array.range (len * sz)).map (zv.cells[· % zv.cells.size]!)) (parts.toList.map fun p => (p.1, a.eval p.2)) = some arr := by
              have := hfill
              simp only [cells, zc, if_neg h0] at this
              exact this
            have hzv : (zeroValue e).run P w = .ok zv w := by simp [zeroValue, typeInfo, hi, hzz]
            rw [if_neg h0, Sem.run_bind, hzv, Result.andThen_ok, Sem.run_bind, Sem.run_pure, Result.andThen_ok, hpl]
            simp only [hfill']
            rfl
        have hmap : (parts.map fun (i, x) => (i, a.eval x)) = (parts.map fun (p : Nat × Operand) => (p.1, a.eval p.2)) := rfl
        simp only [execOp, ho, Sem.run_bind, hmap, hmid, Result.andThen_ok, Sem.run_pure]
      · exact h.elim
    · exact h.elim
  · rename_i t l c d ho hd
    unfold mkQ at h
    split at h
    · rename_i e sz k n k' m hT hl hc
      split at h
      · rename_i z i hz hi
        obtain ⟨hnm, hzl, h0, hby, h63, hH, hK⟩ := h
        obtain ⟨hu, i2, hi2, his⟩ := tElem_some hT
        rw [hi] at hi2; cases hi2
        obtain ⟨i', zv, hi', hzz, hz1, rfl⟩ := zeroA_some hz
        rw [hi] at hi'; cases hi'
        have hzsz : zv.cells.size = sz := by simpa using hzl
        have el : a.eval l = .int k n := by have := g.ev l; rw [hl] at this; exact inv_s this
        have ec : a.eval c = .int k' m := by have := g.ev c; rw [hc] at this; exact inv_s this
        have hrun := run_make (P := P) w t e i zv hu hi hzz k k' n m h0 hnm hby h63
        have hone : ∀ c ∈ zv.cells.toList.map cellAV, one c = true := by
          intro c hc
          obtain ⟨v, -, rfl⟩ := List.mem_map.1 hc
          exact (one_cellAV v).1
        have hfz : flat (zelem (zv.cells.toList.map cellAV)) = zv.cells.toList.map cellAV := flat_zelem _ hone
        have hfl : flats (List.replicate n.toNat (zelem (zv.cells.toList.map cellAV))) = (List.replicate n.toNat (zv.cells.toList.map cellAV)).flatten := by rw [flats_replicate, hfz]
        have harr : (madeCells zv.cells (m.toNat * i.size)).toList.take (n.toNat * sz) = (List.replicate n.toNat zv.cells.toList).flatten := by rw [his, ← hzsz, made_flat]; exact flat_take (by omega)
        have hrep : Reps w (okG C φ st.H) (flats (List.replicate n.toNat (zelem (zv.cells.toList.map cellAV)))) ((madeCells zv.cells (m.toNat * i.size)).toList.take (n.toNat * sz)) := by
          rw [hfl, harr]; exact (Reps.cells _ hz1).repl _
        have h1 : ∀ x ∈ (madeCells zv.cells (m.toNat * i.size)).toList.take (n.toNat * sz), x.oneCell' = true := by
          rw [harr]
          intro x hx
          obtain ⟨l', hl', hx'⟩ := List.mem_flatten.1 hx
          rw [(List.mem_replicate.1 hl').2] at hx'
          exact List.all_eq_true.1 hz1 x hx'
        have hln : (List.replicate n.toNat (zelem (zv.cells.toList.map cellAV))).length = n.toNat := List.length_replicate
        have hsz2 : (madeCells zv.cells (m.toNat * i.size)).size = m.toNat * sz := by rw [size_madeCells, his]
        have hle2 : n.toNat * sz ≤ m.toNat * sz := Nat.mul_le_mul_right _ (by omega)
        have hown : OwnsR (w.alloc (.cells (madeCells zv.cells (m.toNat * i.size)) e)) 0 e sz (.slice (some ⟨w.heap.size, 0, none⟩) n.toNat m.toNat) (List.replicate n.toNat (zelem (zv.cells.toList.map cellAV))).length ((madeCells zv.cells (m.toNat * i.size)).toList.take (n.toNat * sz)) :=
          .inl ⟨by rw [hln, List.length_take, Array.length_toList, hsz2]; exact Nat.min_eq_left hle2, .inr ⟨w.heap.size, m.toNat, _, by rw [hln], Nat.zero_le _, heap_alloc_new w _, by rw [hln]; omega, by simp only [maxLen]; omega, hsz2, by rw [hln]⟩⟩
        have g2 := g.newRow (Nat.lt_of_lt_of_le (hN _ hd) C.small) hH (grown_alloc w _) (fun b hb => by
          cases hq : m.toNat with
          | zero => rw [hq] at hb; simp [Blk, blkOf] at hb
          | succ q => rw [hq] at hb; simp [Blk, blkOf] at hb; omega) hown hrep h1 (fun v hv => by rw [(List.mem_replicate.1 hv).2, hfz]; simpa using hzl)
        have g3 := g2.put (own_new hln hown) o.dst hN
        rw [hd] at g3
        refine val (r := .slice (some ⟨w.heap.size, 0, none⟩) n.toNat m.toNat) (w' := w.alloc (.cells (madeCells zv.cells (m.toNat * i.size)) e)) ?_ hK (by rw [hd]; exact g3)
        simp [execOp, ho, el, ec, hrun]
      · exact h.elim
    · exact h.elim
  · rename_i t x y ho
    obtain ⟨st', w', hK, g2, hrun⟩ := storeQ_sound g (g.ev x) (g.ev y) h
    unfold Oper.wp
    have : (execOp a.eval o).run P w = .ok .skip w' := by simp [execOp, ho, hrun]
    rw [this]
    exact hn _ _ _ hK ⟨φ, g2.put (v := .junk) (x := undef) trivial o.dst hN⟩
  · rename_i c ho
    unfold callK at h
    obtain ⟨cal, args, tys⟩ := c
    split at h
    · rename_i s x t t' d' e1 e2 e3 hd
      simp only at e1 e2 e3
      subst e1
      obtain rfl : args = #[s, x] := by apply Array.ext'; simpa using e2
      obtain rfl : tys = #[t, t'] := by apply Array.ext'; simpa using e3
      obtain ⟨rfl, h⟩ := h
      obtain ⟨st', φ', w', r, hK, g2, hrun⟩ := appQ_sound (ty := o.type) g (hN _ hd) (g.ev s) (g.ev x) h
      exact val (r := r) (w' := w') (by simp [execOp, ho, resolve, invoke, builtin, hrun]) hK (by rw [hd]; exact g2)
    · rename_i x t e1 e2 e3
      simp only at e1 e2 e3
      subst e1
      obtain rfl : args = #[x] := by apply Array.ext'; simpa using e2
      obtain rfl : tys = #[t] := by apply Array.ext'; simpa using e3
      obtain ⟨st', w', hK, g2, hrun⟩ := clrQ_sound (ty := o.type) g (g.ev x) h
      exact val (r := .tuple #[]) (w' := w') (by simp [execOp, ho, resolve, invoke, builtin, hrun]) hK (g2.put (v := .tup []) (x := .tuple #[]) (RepV.of (Rep.tup (vs := []) .nil)) o.dst hN)
    · rename_i f e1
      simp only at e1
      subst e1
      rcases h with h | ⟨gf, caps, as, σ, pre, τ, R, post, r, conv, h1, h2, h3, h4, h5, h6, h7⟩
      case inr => exact callXR_sound g ho h1 h2 h3 h4 h5 h6 hN fun x hx φ' a' w' g2 => hn _ _ _ (h7 x hx) ⟨φ', g2⟩
      refine opQ_wp g (o := o) (K := fun v => K (st.put o.dst v)) (by rw [ho]; exact h) (fun v x w' hK hb hr => hn _ _ _ hK ⟨φ, (g.quiet hb).put hr o.dst hN⟩)
    · exact plainQ ho h
  · rcases h with h | h
    · exact plainQ rfl h
    · unfold nilQ at h
      split at h
      · rename_i t x y yt ho
        obtain ⟨rfl, ht, m, hm, hK⟩ := h
        obtain ⟨A, c, hx, hA⟩ := slLen_slice g (g.ev x) hm
        obtain ⟨⟨e, sz⟩, hes⟩ := Option.isSome_iff_exists.1 ht
        obtain ⟨hu, -⟩ := tElem_some hes
        have h4 := run_eqNil (P := P) hu A m c x (.const (.slice none 0 0)) w
        have h5 : ((do eqGuard .eql t x (.const (.slice none 0 0)) (a.eval x) (a.eval (.const (.slice none 0 0))); binOp .eql t (a.eval x) (a.eval (.const (.slice none 0 0))) : Sem Value) >>= fun v => (Pure.pure (Next.value v) : Sem Next)).run P w = .ok (.value (.bool A.isNone)) w := by
          rw [Sem.run_bind, hx]
          have : a.eval (.const (.slice none 0 0)) = .slice none 0 0 := rfl
          rw [this, h4]; rfl
        exact val (r := .bool A.isNone) (w' := w) (by simpa [execOp, ho] using h5) (hK A.isNone (fun h => hA (by cases A with
          | none => rfl
          | some _ => cases h))) (g.put (v := .s (.bool A.isNone)) (x := .bool A.isNone) (RepV.of (.s rfl)) o.dst hN)
      · exact h.elim
end
end Go.Proofs.Ytdnndlalflahhaa.Ev
