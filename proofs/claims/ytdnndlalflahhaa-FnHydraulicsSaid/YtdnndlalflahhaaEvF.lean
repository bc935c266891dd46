/- Calls: what a function answers, whatever the memory ('Den'), and what a caller has of it. -/
import Derived.Test.YtdnndlalflahhaaEvE
set_option linter.unusedVariables false
set_option linter.unusedSimpArgs false
namespace Go.Proofs.Ytdnndlalflahhaa.Ev
open Go Go.RowKit
def Den (P : Program) (f : Nat) (args : List AV) (r : AV) : Prop :=
  (∃ fn, P.funcs[f]? = some fn ∧ (fn.name == "runtime.NumGoroutine") = false ∧ fn.body.isSome = true) ∧
  ∀ (w : World) (ok : Nat → Prop) (vs : List Value), Glb P w ok → Reps w ok args vs →
    Calls P f vs.toArray w fun e w' => ∃ v, e = .returned v ∧ Below w.heap.size w w' ∧ Rep w' (fun b => ok b ∨ w.heap.size ≤ b) r v
def optAll (f : AV → Option AV) : List AV → Option (List AV)
  | [] => some []
  | x :: xs => match f x, optAll f xs with
    | some y, some ys => some (y :: ys)
    | _, _ => none
def roOf (H : Nat → Option OB) : Nat → AV → Option AV
  | _, .own h n => match H h with
    | some (.row _ sz es) => some (.lst sz (es.take n))
    | _ => none
  | _, .osl h i n => match H h with
    | some (.row _ sz es) => some (.lst sz ((es.drop i).take n))
    | _ => none
  | _, .nst h _ => match H h with
    | some (.nest _ _ szI rows) => some (.lst 1 (rows.map (.lst szI)))
    | _ => none
  | _, .inr h i => match H h with
    | some (.nest _ _ szI rows) => (rows[i]?).map (.lst szI)
    | _ => none
  | k + 1, .ptr h o => match H h with
    | some (.box _ cs) => (optAll (roOf H k) (cs.drop o)).map .rp
    | _ => none
  | k + 1, .clo f hs => (optAll (roOf H k) (hs.map fun h => .ptr h 0)).map (.fn f)
  | k + 1, .agg cs => (optAll (roOf H k) cs).map .agg
  | k + 1, .tup cs => (optAll (roOf H k) cs).map .tup
  | 0, .ptr _ _ => none
  | 0, .clo _ _ => none
  | 0, .agg _ => none
  | 0, .tup _ => none
  | _, .junk => none
  | _, .eptr _ _ _ => none
  | _, .nptr _ _ => none
  | _, v => some v
def callG (P : Program) (g : Nat) (args : List AV) (ro : Bool) (K : AV → Prop) : Prop :=
  ∃ r, Den P g args r ∧ (ro = true ∨ noMems r = true) ∧ K r
def callQ (P : Program) (st : St) (c : Call) (K : AV → Prop) : Prop :=
  match c.callee with
  | .value f => (match roOf st.H 4 (st.ev f), optAll (roOf st.H 4) (c.args.toList.map st.ev) with
    | some (.fn g caps), some rs => callG P g (rs ++ caps) ((c.args.toList.map st.ev).all isRO && isRO (st.ev f)) K
    | _, _ => False)
  | _ => False
def opQ (P : Program) (st : St) (op : Op) (K : AV → Prop) : Prop :=
  match op with
  | .call c => (match c.callee with
    | .value _ => callQ P st c K
    | _ => biQ P st c K)
  | op => opQ0 P st op K
def okF {P : Program} (C : Ctx P) (b : Nat) : Prop := (C.ok0 b ∨ C.w0.heap.size ≤ b) ∨ C.M b
section
variable {P : Program} {C : Ctx P} {st : St} {φ : Nat → Value} {a : Act} {w : World}
theorem Rep.weak {w : World} {ok ok' : Nat → Prop} (hk : ∀ b, ok b → ok' b) {x : AV} {v : Value} (h : Rep w ok x v) : Rep w ok' x v := h.mono (fun b hb _ => hk b hb) (fun _ _ _ => rfl)
theorem optAll_sound {f : AV → Option AV} {R R' : AV → Value → Prop} (hf : ∀ x y v, R x v → f x = some y → R' y v) : ∀ {xs ys : List AV} {vs : List Value}, optAll f xs = some ys → All2 R xs vs → All2 R' ys vs := by
  intro xs
  induction xs with
  | nil => intro ys vs h h2; cases h; exact ⟨h2.1, fun i x v hx => by simp at hx⟩
  | cons x xs ih =>
    intro ys vs h h2
    unfold optAll at h
    split at h
    · rename_i y ys' h1 h3
      cases h
      cases vs with
      | nil => simpa using h2.1
      | cons v vs =>
        have ih' := ih h3 (vs := vs) ⟨by simpa using h2.1, fun i x v hx hv => h2.2 (i + 1) x v (by simpa using hx) (by simpa using hv)⟩
        refine ⟨by simp [ih'.1], fun i z u hz hu => ?_⟩
        cases i with
        | zero => simp at hz hu; subst hz hu; exact hf _ _ _ (h2.2 0 _ _ rfl rfl) h1
        | succ i => exact ih'.2 i z u (by simpa using hz) (by simpa using hu)
    · cases h
theorem All2.toReps {ok : Nat → Prop} {xs : List AV} {vs : List Value} (h : All2 (Rep w ok) xs vs) : Reps w ok xs vs := by
  induction xs generalizing vs with
  | nil =>
    have : vs = [] := List.eq_nil_of_length_eq_zero (by simpa using h.1)
    subst this; exact .nil
  | cons x xs ih =>
    cases vs with
    | nil => simpa using h.1
    | cons v vs => exact .cons (h.2 0 x v rfl rfl) (ih ⟨by simpa using h.1, fun i y u hy hu => h.2 (i + 1) y u (by simpa using hy) (by simpa using hu)⟩)
theorem own_rep {H : Nat → Option OB} {ok okr : Nat → Prop} {h n : Nat} {ty : TypeId} {sz : Nat} {es : List AV} {x : Value} (hH : H h = some (.row ty sz es)) (hown : OwnOb φ H w ok (φ h) (.row ty sz es)) (hok : ∀ b, ok b → okr b)
    (hblk : ∀ b, Blk (φ h) b → okr b) (hx : RepV φ H w ok (.own h n) x) : Rep w okr (.lst sz (es.take n)) x := by
  obtain ⟨ty', sz', es', A, m, c, hH', hφ, hn, rfl⟩ := hx
  rw [hH] at hH'
  cases hH'
  obtain ⟨xs, hown, hr, h1, hsz⟩ := hown
  rw [hφ] at hown hblk
  rcases hown.cases with ⟨h0, -, a', h⟩ | ⟨g', cap, cur, h, -, hg, hnc, hcm, hcs, ht⟩
  · cases h
    have : n = 0 := by omega
    subst this
    simp only [List.take_zero]
    exact .lst0
  · simp only [Value.slice.injEq] at h
    obtain ⟨rfl, rfl, rfl⟩ := h
    have hlen : (es.take n).length = n := by simp; omega
    cases c with
    | zero =>
      have : n = 0 := by omega
      subst this
      simp only [List.take_zero]
      exact .lst0
    | succ c =>
    have hfl : flats (es.take n) = (flats es).take (n * sz) := by
      have hsp : flats es = flats (es.take n) ++ flats (es.drop n) := by
        rw [show flats (es.take n) ++ flats (es.drop n) = flats (es.take n ++ es.drop n) from List.flatMap_append.symm, List.take_append_drop]
      have hl2 : (flats (es.take n)).length = n * sz := by
        rw [flats_length (fun e he => hsz e (List.mem_of_mem_take he)), hlen]
      rw [hsp, ← hl2, List.take_left]
    have hr2 := hr.take (n * sz)
    rw [← hfl] at hr2
    have hk := Rep.lst (w := w) (ok := okr) (sz := sz) (es := es.take n) (a := ⟨g', 0, none⟩) (c := c + 1) (arr := cur) (ty := ty) (fr := (0, 0)) (vs := xs.take (n * sz))
      (rest := xs.drop (n * sz) ++ cur.toList.drop (es.length * sz)) (fun e he => hsz e (List.mem_of_mem_take he)) (by rw [hlen]; omega) rfl (hblk g' rfl) hg
      (by rw [← List.append_assoc, List.take_append_drop, List.drop_zero, ← ht, List.take_append_drop]) (fun v hv => h1 v (List.mem_of_mem_take hv)) (hr2.mono (fun b h _ => hok b h) (fun _ _ _ => rfl))
    rw [hlen] at hk
    exact hk
theorem rowAt_rep {ok okr : Nat → Prop} {ty sz : Nat} {f : Value} {es : List AV} (h : RowAt w ok f ty sz es) (hok : ∀ b, ok b → okr b) (hblk : ∀ b, blkOf f = some b → okr b) : Rep w okr (.lst sz es) f := by
  obtain ⟨A, c, hf⟩ := h.choose_spec.1.slice
  have := own_rep (φ := fun _ => f) (H := fun _ => some (.row ty sz es)) (w := w) (ok := ok) (okr := okr) (h := 0) (n := es.length) (x := f) rfl h hok (fun b hb => hblk b (by rw [hf] at hb ⊢; exact hb))
    ⟨ty, sz, es, A, es.length, c, rfl, hf, Nat.le_refl _, hf⟩
  rwa [List.take_length] at this
theorem flats_leaf : ∀ {es : List AV}, (∀ e ∈ es, flat e = [e]) → flats es = es
  | [], _ => rfl
  | e :: es, h => by
    show flat e ++ flats es = e :: es
    rw [h e (by simp), flats_leaf (fun x hx => h x (by simp [hx]))]; rfl
theorem nest_rowAt {φ : Nat → Value} {H : Nat → Option OB} {ok okr : Nat → Prop} {fo : Value} {fs : List Value} {ty tyI szI : Nat} {rows : List (List AV)} (h1 : OwnsR w 0 ty 1 fo rows.length fs) (h2 : ∀ (i : Nat) (r : List AV) (f : Value), rows[i]? = some r → fs[i]? = some f → RowAt w ok f tyI szI r)
    (hok : ∀ b, ok b → okr b) (hblk : ∀ f ∈ fs, ∀ b, blkOf f = some b → okr b) : RowAt w okr fo ty 1 (rows.map (.lst szI)) := by
  have hl : fs.length = rows.length := by have := h1.length; omega
  have hfl : flats (rows.map (AV.lst szI)) = rows.map (.lst szI) := flats_leaf fun e he => by obtain ⟨r, -, rfl⟩ := List.mem_map.1 he; rfl
  refine ⟨fs, by simpa using h1, ?_, fun x hx => ?_, fun e he => by obtain ⟨r, -, rfl⟩ := List.mem_map.1 he; rfl⟩
  · rw [hfl]
    refine All2.toReps ⟨by simpa using hl, fun i x v hx hv => ?_⟩
    rw [List.getElem?_map] at hx
    cases hr : rows[i]? with
    | none => rw [hr] at hx; cases hx
    | some r => rw [hr] at hx; cases hx; exact rowAt_rep (h2 i r v hr hv) hok (fun b hb => hblk v (List.mem_of_getElem? hv) b hb)
  · obtain ⟨i, hi, rfl⟩ := List.mem_iff_getElem.1 hx
    obtain ⟨xs, h, -⟩ := h2 i rows[i] fs[i] (List.getElem?_eq_getElem (by omega)) (List.getElem?_eq_getElem hi)
    obtain ⟨A, c, e⟩ := h.slice
    rw [e]; rfl
theorem flats_take {es : List AV} {sz : Nat} (h : ∀ e ∈ es, (flat e).length = sz) {n : Nat} (hn : n ≤ es.length) : flats (es.take n) = (flats es).take (n * sz) := by
  have hsp : flats es = flats (es.take n) ++ flats (es.drop n) := by
    rw [show flats (es.take n) ++ flats (es.drop n) = flats (es.take n ++ es.drop n) from List.flatMap_append.symm, List.take_append_drop]
  have hl2 : (flats (es.take n)).length = n * sz := by
    rw [flats_length (fun e he => h e (List.mem_of_mem_take he))]
    congr 1; simp; omega
  rw [hsp, ← hl2, List.take_left]
theorem osl_rep {H : Nat → Option OB} {ok okr : Nat → Prop} {h i n : Nat} {ty : TypeId} {sz : Nat} {es : List AV} {x : Value} (hH : H h = some (.row ty sz es)) (hown : OwnOb φ H w ok (φ h) (.row ty sz es)) (hok : ∀ b, ok b → okr b)
    (hblk : ∀ b, Blk (φ h) b → okr b) (hx : RepV φ H w ok (.osl h i n) x) : Rep w okr (.lst sz ((es.drop i).take n)) x := by
  obtain ⟨ty', sz', es', A, m, c, A', c', hH', hφ, hn, rfl, hpos⟩ := hx
  rw [hH] at hH'
  cases hH'
  rcases Nat.eq_zero_or_pos n with h0 | h0
  · subst h0
    simp only [List.take_zero]
    exact .lst0
  · obtain ⟨b, rfl, rfl, hc'⟩ := hpos (.inl h0)
    obtain ⟨xs, hown, hr, h1, hsz⟩ := hown
    rw [hφ] at hown hblk
    rcases hown.cases with ⟨h0', -, a', h⟩ | ⟨g', cap, cur, h, -, hg, hnc, hcm, hcs, ht⟩
    · omega
    · simp only [Value.slice.injEq, Option.some.injEq, Addr.mk.injEq] at h
      obtain ⟨⟨rfl, -, -⟩, rfl, rfl⟩ := h
      have hlen : ((es.drop i).take n).length = n := by simp; omega
      have hpc : c ≠ 0 := by omega
      have hb : okr b := hblk b (by cases c with
        | zero => omega
        | succ q => rfl)
      have hxl : xs.length = es.length * sz := hown.length
      have hsz2 : ∀ e ∈ es.drop i, (flat e).length = sz := fun e he => hsz e (List.mem_of_mem_drop he)
      have hle : i * sz ≤ xs.length := by rw [hxl]; exact Nat.mul_le_mul_right _ (by omega)
      have hcur : cur.toList = xs ++ cur.toList.drop (es.length * sz) := by rw [← ht]; exact (List.take_append_drop _ _).symm
      have hr2 := (hr.drop (i * sz)).take (n * sz)
      rw [flats_drop hsz, ← flats_take hsz2 (by simp; omega)] at hr2
      have hk := Rep.lst (w := w) (ok := okr) (sz := sz) (es := (es.drop i).take n) (a := ⟨b, i * sz, none⟩) (c := c') (arr := cur) (ty := ty) (fr := (0, 0)) (vs := (xs.drop (i * sz)).take (n * sz))
        (rest := (xs.drop (i * sz)).drop (n * sz) ++ cur.toList.drop (es.length * sz)) (fun e he => hsz2 e (List.mem_of_mem_take he)) (by rw [hlen]; exact hc'.1) rfl hb hg
        (by rw [← List.append_assoc, List.take_append_drop]; show cur.toList.drop (i * sz) = _; conv => lhs; rw [hcur]
            rw [List.drop_append_of_le_length hle]) (fun v hv => h1 v (List.mem_of_mem_drop (List.mem_of_mem_take hv))) (hr2.mono (fun b h _ => hok b h) (fun _ _ _ => rfl))
      rw [hlen] at hk
      exact hk
theorem roOf_sound {H H' : Nat → Option OB} {ok okr : Nat → Prop} (hsub : ∀ h ob, H' h = some ob → H h = some ob) (hown : ∀ h ob, H h = some ob → OwnOb φ H w ok (φ h) ob) (hok : ∀ b, ok b → okr b)
    (hblk : ∀ h b, (H' h).isSome = true → Blk (φ h) b → okr b) : ∀ (k : Nat) {v r : AV} {x : Value}, RepV φ H w ok v x → roOf H' k v = some r → Rep w okr r x := by
  intro k
  have weak : ∀ {v : AV} {x : Value}, isRO v = true → RepV φ H w ok v x → Rep w okr v x := fun hv hx => ((RepV.ro hv).1 hx).weak hok
  have own : ∀ {k h' n : Nat} {r : AV} {x : Value}, RepV φ H w ok (.own h' n) x → roOf H' k (.own h' n) = some r → Rep w okr r x := by
    intro k h' n r x hx h
    have h2 : (match H' h' with
      | some (.row _ sz es) => some (.lst sz (es.take n))
      | _ => none) = some r := by cases k <;> exact h
    split at h2
    · rename_i ty sz es hH
      cases h2
      exact own_rep (hsub _ _ hH) (hown _ _ (hsub _ _ hH)) hok (fun b hb => hblk h' b (by rw [hH]; rfl) hb) hx
    · cases h2
  have osl : ∀ {k h' i n : Nat} {r : AV} {x : Value}, RepV φ H w ok (.osl h' i n) x → roOf H' k (.osl h' i n) = some r → Rep w okr r x := by
    intro k h' i n r x hx h
    have h2 : (match H' h' with
      | some (.row _ sz es) => some (.lst sz ((es.drop i).take n))
      | _ => none) = some r := by cases k <;> exact h
    split at h2
    · rename_i ty sz es hH
      cases h2
      exact osl_rep (hsub _ _ hH) (hown _ _ (hsub _ _ hH)) hok (fun b hb => hblk h' b (by rw [hH]; rfl) hb) hx
    · cases h2
  have nst : ∀ {k h' n : Nat} {r : AV} {x : Value}, RepV φ H w ok (.nst h' n) x → roOf H' k (.nst h' n) = some r → Rep w okr r x := by
    intro k h' n r x hx h
    have h2 : (match H' h' with
      | some (.nest _ _ szI rows) => some (.lst 1 (rows.map (.lst szI)))
      | _ => none) = some r := by cases k <;> exact h
    split at h2
    · rename_i ty tyI szI rows hH
      cases h2
      obtain ⟨ty2, tyI2, szI2, rows2, fs, hH2, hφ, -⟩ := hx
      obtain ⟨fo, fs', e, h1, h2, h3⟩ := hown _ _ (hsub _ _ hH)
      rw [hφ] at e
      have e' := congrArg Array.toList (Value.tuple.inj e)
      simp only [List.cons.injEq] at e'
      obtain ⟨rfl, rfl⟩ := e'
      have hb : ∀ f ∈ (x :: fs), ∀ b, blkOf f = some b → okr b := fun f hf b hb => hblk h' b (by rw [hH]; rfl) (by rw [hφ]; exact ⟨f, hf, hb⟩)
      exact rowAt_rep (nest_rowAt (φ := φ) (H := H) h1 h2 hok (fun f hf => hb f (by simp [hf]))) (fun _ h => h) (hb x (by simp))
    · cases h2
  have inr : ∀ {k h' i : Nat} {r : AV} {x : Value}, RepV φ H w ok (.inr h' i) x → roOf H' k (.inr h' i) = some r → Rep w okr r x := by
    intro k h' i r x hx h
    have h2 : (match H' h' with
      | some (.nest _ _ szI rows) => (rows[i]?).map (.lst szI)
      | _ => none) = some r := by cases k <;> exact h
    split at h2
    · rename_i ty tyI szI rows hH
      cases hr : rows[i]? with
      | none => rw [hr] at h2; cases h2
      | some rw' =>
        rw [hr] at h2; cases h2
        obtain ⟨ty2, tyI2, szI2, rows2, fo0, fs, hH2, hφ, hi, -⟩ := hx
        obtain ⟨fo, fs', e, h1, h2, h3⟩ := hown _ _ (hsub _ _ hH)
        rw [hφ] at e
        have e' := congrArg Array.toList (Value.tuple.inj e)
        simp only [List.cons.injEq] at e'
        obtain ⟨rfl, rfl⟩ := e'
        exact rowAt_rep (h2 i rw' x hr hi) hok (fun b hb => hblk h' b (by rw [hH]; rfl) (by rw [hφ]; exact ⟨x, by simp [List.mem_of_getElem? hi], hb⟩))
    · cases h2
  induction k with
  | zero =>
    intro v r x hx h
    cases v with
    | nst h' n => exact nst hx h
    | inr h' i => exact inr hx h
    | nptr => simp [roOf] at h
    | own h' n => exact own hx h
    | osl h' i n => exact osl hx h
    | ptr => simp [roOf] at h
    | eptr => simp [roOf] at h
    | clo => simp [roOf] at h
    | junk => simp [roOf] at h
    | agg => simp [roOf] at h
    | tup => simp [roOf] at h
    | _ => simp only [roOf, Option.some.injEq] at h; subst h; exact weak rfl hx
  | succ k ih =>
    intro v r x hx h
    cases v with
    | nst h' n => exact nst hx h
    | inr h' i => exact inr hx h
    | nptr => simp [roOf] at h
    | own h' n => exact own hx h
    | osl h' i n => exact osl hx h
    | ptr h' o =>
      unfold roOf at h
      split at h
      · rename_i ty cs hH'
        have hH := hsub _ _ hH'
        obtain ⟨ty', cs', gb, hH2, hφ, rfl⟩ := hx
        rw [hH] at hH2
        cases hH2
        have ho := hown _ _ hH
        rw [hφ] at ho
        have hB : okr gb := hblk h' gb (by rw [hH']; rfl) (by rw [hφ]; rfl)
        obtain ⟨vs, hc, h1, h2⟩ := box_cells ho o
        cases hr : optAll (roOf H' k) (cs.drop o) with
        | none => rw [hr] at h; cases h
        | some ys =>
          rw [hr] at h; cases h
          exact Rep.rp_mk hB hc h1 (optAll_sound (R := RepV φ H w ok) (R' := Rep w okr) (fun x y v hx hy => ih hx hy) hr h2).toReps
      · cases h
    | clo f hs =>
      unfold roOf at h
      obtain ⟨rfl, hall⟩ := hx
      cases hr : optAll (roOf H' k) (hs.map fun h => .ptr h 0) with
      | none => rw [hr] at h; cases h
      | some ys =>
        rw [hr] at h; cases h
        refine .fn (optAll_sound (R := RepV φ H w ok) (R' := Rep w okr) (fun x y v hx hy => ih hx hy) hr ⟨by simp, fun i x v hx hv => ?_⟩).toReps
        rw [List.getElem?_map] at hx hv
        cases hi : hs[i]? with
        | none => rw [hi] at hx; cases hx
        | some h =>
          rw [hi] at hx hv
          cases hx; cases hv
          obtain ⟨ty, cs, hH⟩ := hall h (List.mem_of_getElem? hi)
          obtain ⟨gb, arr, hφ, -⟩ := hown _ _ hH
          exact ⟨ty, cs, gb, hH, hφ, hφ⟩
    | agg cs =>
      unfold roOf at h
      cases hr : optAll (roOf H' k) cs with
      | none => rw [hr] at h; cases h
      | some ys =>
        rw [hr] at h; cases h
        unfold RepV at hx
        obtain ⟨vs, rfl, hx⟩ := hx
        exact .agg (optAll_sound (R := RepV φ H w ok) (R' := Rep w okr) (fun x y v hx hy => ih hx hy) hr (RepVs_iff.1 hx)).toReps
    | tup cs =>
      unfold roOf at h
      cases hr : optAll (roOf H' k) cs with
      | none => rw [hr] at h; cases h
      | some ys =>
        rw [hr] at h; cases h
        unfold RepV at hx
        obtain ⟨vs, rfl, hx⟩ := hx
        exact .tup (optAll_sound (R := RepV φ H w ok) (R' := Rep w okr) (fun x y v hx hy => ih hx hy) hr (RepVs_iff.1 hx)).toReps
    | eptr => simp [roOf] at h
    | junk => simp [roOf] at h
    | _ => simp only [roOf, Option.some.injEq] at h; subst h; exact weak rfl hx
theorem GamW.roOf (g : GamW C st φ a w) (k : Nat) {v r : AV} {x : Value} (hx : RepV φ st.H w (okG C φ st.H) v x) (h : roOf st.H k v = some r) : Rep w (okF C) r x :=
  roOf_sound (fun _ _ h => h) g.own (fun b h => .inl h.1) (fun h b hs hb => by
    rcases g.mine h b hs hb with h | h
    · exact .inr h
    · exact .inl (.inr h)) k hx h
theorem optAll_eq_of {f : AV → Option AV} : ∀ {xs ys : List AV}, (∀ x ∈ xs, ∀ y, f x = some y → y = x) → optAll f xs = some ys → ys = xs
  | [], ys, _, h => by cases h; rfl
  | x :: xs, ys, hf, h => by
    unfold optAll at h
    split at h
    · rename_i y ys' h1 h2
      cases h
      rw [hf x (by simp) y h1, optAll_eq_of (fun x hx => hf x (by simp [hx])) h2]
    · cases h
theorem roOf_eq {H : Nat → Option OB} : ∀ (k : Nat) {v r : AV}, isRO v = true → roOf H k v = some r → r = v
  | 0, v, r, hv, h => by
    cases v <;> first | (simp [Ev.isRO] at hv; done) | (simp only [roOf, Option.some.injEq] at h; exact h.symm) | (simp [roOf] at h)
  | k + 1, v, r, hv, h => by
    cases v <;> first | (simp [Ev.isRO] at hv; done) | (simp only [roOf, Option.some.injEq] at h; exact h.symm) | skip
    · rename_i cs
      unfold roOf at h
      cases hr : optAll (roOf H k) cs with
      | none => rw [hr] at h; cases h
      | some ys =>
        rw [hr] at h; cases h
        simp only [Ev.isRO, isROs_all, List.all_eq_true] at hv
        rw [optAll_eq_of (fun x hx y hy => roOf_eq k (hv x hx) hy) hr]
    · rename_i cs
      unfold roOf at h
      cases hr : optAll (roOf H k) cs with
      | none => rw [hr] at h; cases h
      | some ys =>
        rw [hr] at h; cases h
        simp only [Ev.isRO, isROs_all, List.all_eq_true] at hv
        rw [optAll_eq_of (fun x hx y hy => roOf_eq k (hv x hx) hy) hr]
theorem optAll_eq {H : Nat → Option OB} {k : Nat} {xs ys : List AV} (h : xs.all isRO = true) (he : optAll (roOf H k) xs = some ys) : ys = xs :=
  optAll_eq_of (fun x hx y hy => roOf_eq k (List.all_eq_true.1 h x hx) hy) he
theorem blk_lt {φ : Nat → Value} {ok : Nat → Prop} {H : Nat → Option OB} {fv : Value} {ob : OB} (h : OwnOb φ H w ok fv ob) {b : Nat} (hb : Blk fv b) : b < w.heap.size := by
  cases ob with
  | row ty sz es =>
    obtain ⟨xs, hown, -⟩ := h
    rcases hown.cases with ⟨-, -, a', h⟩ | ⟨g1, cap, cur, h, hB, hg, -⟩
    · rw [h] at hb; cases a' <;> simp [Blk, blkOf] at hb
    · rw [h] at hb
      cases cap with
      | zero => simp [Blk, blkOf] at hb
      | succ cap => simp [Blk, blkOf] at hb; subst hb; exact lt_of_heap hg
  | box ty cs =>
    obtain ⟨g1, arr, h, hg, -⟩ := h
    rw [h] at hb; simp [Blk, blkOf] at hb; subst hb; exact lt_of_heap hg
  | nest ty tyI szI rows =>
    obtain ⟨fo, fs, rfl, h1, h2, h3⟩ := h
    obtain ⟨f, hf, hb⟩ := hb
    simp only [List.mem_cons] at hf
    have one : ∀ {e sz n : Nat} {f : Value} {xs : List Value}, OwnsR w 0 e sz f n xs → blkOf f = some b → b < w.heap.size := by
      intro e sz n f xs hown hb
      rcases hown.cases with ⟨-, -, a', h⟩ | ⟨g1, cap, cur, h, hB, hg, -⟩
      · rw [h] at hb; cases a' <;> simp [blkOf] at hb
      · rw [h] at hb
        cases cap with
        | zero => simp [blkOf] at hb
        | succ cap => simp [blkOf] at hb; subst hb; exact lt_of_heap hg
    rcases hf with rfl | hf
    · exact one h1 hb
    · have hl : fs.length = rows.length := by have := h1.length; omega
      obtain ⟨i, hi, rfl⟩ := List.mem_iff_getElem.1 hf
      obtain ⟨xs, h, -⟩ := h2 i rows[i] fs[i] (List.getElem?_eq_getElem (by omega)) (List.getElem?_eq_getElem hi)
      exact one h hb
theorem wp_value {o : Oper} {r : Value} {next : Act → World → Prop} {Q : Exit → Act → World → Prop} (h : (execOp a.eval o).run P w = .ok (.value r) w) (hn : next (a.put o.dst r) w) : o.wp P a w next Q := by
  unfold Oper.wp
  rw [h]
  exact hn
theorem args_rep (g : GamW C st φ a w) (xs : List Operand) : All2 (RepV φ st.H w (okG C φ st.H)) (xs.map st.ev) (xs.map a.eval) := by
  refine ⟨by simp, fun i x v hx hv => ?_⟩
  rw [List.getElem?_map] at hx hv
  cases ho : xs[i]? with
  | none => rw [ho] at hx; cases hx
  | some o => rw [ho] at hx hv; cases hx; cases hv; exact g.ev o
theorem opQ_wp (g : GamW C st φ a w) {o : Oper} {K : AV → Prop} {next : Act → World → Prop} {Q : Exit → Act → World → Prop} (h : opQ P st o.op K)
    (hn : ∀ v x w', K v → Below w.heap.size w w' → RepV φ st.H w' (okG C φ st.H) v x → next (a.put o.dst x) w') : o.wp P a w next Q := by
  have plain : ∀ {op : Op}, o.op = op → opQ0 P st op K → o.wp P a w next Q := fun ho h => by
    obtain ⟨v, r, h1, h2, h3⟩ := opQ0_sound g ho h
    exact wp_value h3 (hn v r w h1 (Below.refl _ _) h2)
  unfold opQ at h
  split at h
  · rename_i c ho
    split at h
    · rename_i f hf
      obtain ⟨cal, args, tys⟩ := c
      simp only at hf; subst hf
      unfold callQ at h
      simp only at h
      split at h
      · rename_i g' caps rs e1 e2
        obtain ⟨r, hden, hro, hK⟩ := h
        have hfv := g.ev f
        have hfr := g.roOf 4 hfv e1
        have hav := args_rep g args.toList
        generalize hz : a.eval f = z at hfr hfv
        cases hfr with
        | fn hcaps =>
          rename_i cv
          obtain ⟨⟨fn, hfn, hname, hbody⟩, hden⟩ := hden
          have hreps : ∃ ok : Nat → Prop, Glb P w ok ∧ Reps w ok (rs ++ caps) (args.toList.map a.eval ++ cv) ∧ (∀ (w' : World) (v : Value), Below w.heap.size w w' → Rep w' (fun b => ok b ∨ w.heap.size ≤ b) r v → Rep w' (okG C φ st.H) r v) := by
            rcases hro with hrr | hm
            · obtain ⟨hr1, hr2⟩ := Bool.and_eq_true_iff.1 hrr
              refine ⟨okG C φ st.H, g.glb, ?_, fun w' v hb hr => hr.weak fun b hb' => ?_⟩
              · obtain rfl := optAll_eq hr1 e2
                have e1' := roOf_eq 4 hr2 e1
                rw [← e1'] at hfv
                have hfv' : Rep w (okG C φ st.H) (.fn g' caps) (.func (.func g') #[] cv.toArray) := hfv
                generalize hzz : Value.func (.func g') #[] cv.toArray = zz at hfv'
                cases hfv' with
                | fn hc2 =>
                  rename_i cv2
                  simp only [Value.func.injEq, true_and, Fn.func.injEq] at hzz
                  have : cv = cv2 := by have := congrArg Array.toList hzz; simpa using this
                  subst this
                  exact (hav.reps hr1).append hc2
              · rcases hb' with hb' | hb'
                · exact hb'
                · refine ⟨.inr (Nat.le_trans g.below.size hb'), fun k hk hblk => ?_⟩
                  obtain ⟨ob, hob⟩ := Option.isSome_iff_exists.1 hk
                  have hlt : b < w.heap.size := blk_lt (g.own _ _ hob) hblk
                  omega
            · exact ⟨okF C, g.glb.mono (fun b hb _ => .inl hb.1) (fun _ _ _ => rfl), (optAll_sound (R := RepV φ st.H w (okG C φ st.H)) (R' := Rep w (okF C)) (fun x y v hx hy => g.roOf 4 hx hy) e2 hav).toReps.append hcaps, fun w' v hb hr => hr.noMems hm⟩
          obtain ⟨ok, hglb, hreps, hback⟩ := hreps
          have hcall := hden w ok _ hglb hreps
          have hrun : (execOp a.eval o).run P w = .ok (.enter g' (args.toList.map a.eval ++ cv).toArray) w := by
            have hb2 : ¬ fn.body = none := by cases hfb : fn.body <;> simp_all
            have hname' : ¬ fn.name = "runtime.NumGoroutine" := by simpa using hname
            have e3 : args.map a.eval ++ cv.toArray = (args.toList.map a.eval ++ cv).toArray := by apply Array.ext'; simp
            simp [execOp, ho, resolve, Deferred.ofValue, hz, invoke, callFunc, hfn, hname', hb2, e3]
          unfold Oper.wp
          rw [hrun]
          refine hcall.mono fun e w' ⟨v, he, hb, hr⟩ => ?_
          subst he
          exact hn r v w' hK hb (RepV.of (hback w' v hb hr))
      · exact h.elim
    · exact plain ho (by unfold opQ0; exact h)
  · exact plain rfl h
end
end Go.Proofs.Ytdnndlalflahhaa.Ev
