/- The operations that leave memory as it is, all of them. -/
import Derived.Test.YtdnndlalflahhaaEvD
set_option linter.unusedVariables false
set_option linter.unusedSimpArgs false
namespace Go.Proofs.Ytdnndlalflahhaa.Ev
open Go Go.RowKit
section
variable {P : Program} {C : Ctx P} {st : St} {φ : Nat → Value} {a : Act} {w : World}
theorem tIsStr_some {t : TypeId} (h : tIsStr P t = true) : P.underlying t = some .string := by
  unfold tIsStr at h
  split at h
  · assumption
  · cases h
theorem tKind_some {t : TypeId} {k : IntKind} (h : tKind P t = some k) : P.underlying t = some (.int k) := by
  unfold tKind at h
  split at h
  · cases h; assumption
  · cases h
theorem inv_s {φ : Nat → Value} {H : Nat → Option OB} {ok : Nat → Prop} {v x : Value} (h : RepV φ H w ok (.s v) x) : x = v := by
  have h2 : Rep w ok (.s v) x := h
  cases h2; rfl
theorem inv_agg {φ : Nat → Value} {H : Nat → Option OB} {ok : Nat → Prop} {cs : List AV} {x : Value} (h : RepV φ H w ok (.agg cs) x) : ∃ vs : List Value, x = .agg vs.toArray ∧ All2 (RepV φ H w ok) cs vs := by
  unfold RepV at h
  obtain ⟨vs, e, h⟩ := h
  exact ⟨vs, e, RepVs_iff.1 h⟩
theorem inv_tup {φ : Nat → Value} {H : Nat → Option OB} {ok : Nat → Prop} {cs : List AV} {x : Value} (h : RepV φ H w ok (.tup cs) x) : ∃ vs : List Value, x = .tuple vs.toArray ∧ All2 (RepV φ H w ok) cs vs := by
  unfold RepV at h
  obtain ⟨vs, e, h⟩ := h
  exact ⟨vs, e, RepVs_iff.1 h⟩
theorem lenQ_sound (g : GamW C st φ a w) {t ty : TypeId} {x : AV} {xv : Value} (hx : RepV φ st.H w (okG C φ st.H) x xv) {K : AV → Prop} (h : lenQ P t x K) :
    ∃ v r, K v ∧ RepV φ st.H w (okG C φ st.H) v r ∧ (Builtin.len_ #[t] ty #[xv]).run P w = .ok r w := by
  unfold lenQ at h
  have slc : ∀ {A : Option Addr} {n c : Nat}, (tElem P t).isSome = true → (Builtin.len_ #[t] ty #[.slice A n c]).run P w = .ok (.int .i64 n) w := by
    intro A n c ht
    obtain ⟨⟨e, sz⟩, hes⟩ := Option.isSome_iff_exists.1 ht
    obtain ⟨hu, -⟩ := tElem_some hes
    simp [Builtin.len_, run_underlying hu, goInt]
  split at h
  · obtain ⟨ht, hK⟩ := h
    obtain rfl := inv_s hx
    exact ⟨_, _, hK.out, RepV.of (.s rfl), by simp [Builtin.len_, run_underlying (tIsStr_some ht), goInt]⟩
  · obtain ⟨ht, hK⟩ := h
    have h2 : Rep w (okG C φ st.H) _ xv := hx
    cases h2 with
    | lst0 => exact ⟨_, _, hK.out, RepV.of (.s rfl), slc ht⟩
    | lst => exact ⟨_, _, hK.out, RepV.of (.s rfl), slc ht⟩
  · obtain ⟨ht, hK⟩ := h
    obtain ⟨ty, sz, es, A, m, c, hH, hφ, hn, rfl⟩ := hx
    exact ⟨_, _, hK.out, RepV.of (.s rfl), slc ht⟩
  · obtain ⟨ht, hK⟩ := h
    obtain ⟨ty, sz, es, A, m, c, A', c', hH, hφ, hn, rfl, -⟩ := hx
    exact ⟨_, _, hK.out, RepV.of (.s rfl), slc ht⟩
  · obtain ⟨ht, hK⟩ := h
    obtain ⟨ty, tyI, szI, rows, fs, hH, hφ, h1c, hn⟩ := hx
    obtain ⟨h1, -⟩ := nest_inv (g.own _ _ hH) hφ
    obtain ⟨A, c, rfl⟩ := h1.slice
    rw [hn]
    exact ⟨_, _, hK.out, RepV.of (.s rfl), slc ht⟩
  · obtain ⟨ht, hK⟩ := h
    have h2 : Rep w (okG C φ st.H) _ xv := hx
    cases h2 with
    | nil => exact ⟨_, _, hK, RepV.of (.s rfl), slc ht⟩
  · exact h.elim
theorem mm2_sound {φ : Nat → Value} {H : Nat → Option OB} {ok : Nat → Prop} {f : Int → Int → Int} {f2 : Value → Value → Sem Value} (hf : ∀ k n k' m, (f2 (.int k n) (.int k' m)).run P w = .ok (.int k (f n m)) w) {x y : AV} {xv yv : Value}
    (hx : RepV φ H w ok x xv) (hy : RepV φ H w ok y yv) {K : AV → Prop} (h : mm2Q f x y K) : ∃ v r, K v ∧ RepV φ H w ok v r ∧ (f2 xv yv).run P w = .ok r w := by
  unfold mm2Q at h
  split at h
  · obtain rfl := inv_s hx
    obtain rfl := inv_s hy
    exact ⟨_, _, h.out, RepV.of (.s rfl), hf _ _ _ _⟩
  · exact h.elim
theorem headQ_sound {φ : Nat → Value} {H : Nat → Option OB} {ok : Nat → Prop} {cs : List AV} {vs : List Value} (hr : All2 (RepV φ H w ok) cs vs) {K : AV → Prop} (h : headQ cs K) : ∃ c v, K c ∧ vs.head? = some v ∧ RepV φ H w ok c v := by
  cases cs with
  | nil => exact h.elim
  | cons c cs =>
    cases vs with
    | nil => have := hr.1; simp at this
    | cons v vs => exact ⟨_, _, h, rfl, hr.2 0 c v rfl rfl⟩
theorem partQ_sound {φ : Nat → Value} {H : Nat → Option OB} {ok : Nat → Prop} {cs : List AV} {vs : List Value} {t : TypeId} {off : Nat} {gz : Option Nat} (ht : tAgg P t = some gz) (hr : All2 (RepV φ H w ok) cs vs) {K : AV → Prop} (h : partQ cs off gz K) :
    ∃ v r, K v ∧ RepV φ H w ok v r ∧ (part t vs.toArray off).run P w = .ok r w := by
  unfold partQ at h
  split at h
  · obtain ⟨hn, hK⟩ := h
    obtain ⟨d, i, hu, hi, hs, ha⟩ := tAgg_some ht
    refine ⟨_, _, hK, RepV.agg ((hr.drop off).take _), ?_⟩
    simp only [part, Sem.run_bind, ha, Result.andThen_ok, if_true, run_sizeOf' hi, hs, Sem.run_pure]
    congr 2
    apply Array.ext'
    simp [List.extract]
  · obtain ⟨c, v, hK, hv, hr'⟩ := headQ_sound (φ := φ) (H := H) (hr.drop off) h
    refine ⟨c, v, hK, hr', ?_⟩
    have : vs[off]? = some v := by rw [List.head?_drop] at hv; exact hv
    simp [part, tAgg_none ht, this]
theorem bnd_lo {k : Option Operand} {d y : Nat} {code : BoundsCode} {l : Int} (g : GamW C st φ a w) (h : bndA d (k.map st.ev) = some l) (h0 : 0 ≤ l) (hy : l ≤ y) :
    (k = none ∧ l = d) ∨ ∃ v, k.map a.eval = some v ∧ (Instr.sliceBound v y code).run P w = .ok l.toNat w := by
  cases k with
  | none => left; simp [bndA] at h; exact ⟨rfl, h.symm⟩
  | some x =>
    right
    simp only [Option.map_some] at h
    have hx := g.ev x
    cases hv : st.ev x with
    | s v =>
      rw [hv] at h hx
      obtain hxv := inv_s hx
      cases v <;> simp [bndA] at h
      subst h
      exact ⟨_, rfl, by rw [hxv]; simp [Instr.sliceBound, asIntOf, h0, hy]⟩
    | _ => rw [hv] at h; simp [bndA] at h
theorem run_sliceBounds (g : GamW C st φ a w) {isS : Bool} {len cap : Nat} {lo hi : Option Operand} {l h : Int} (hl : bndA 0 (lo.map st.ev) = some l) (hh : bndA len (hi.map st.ev) = some h)
    (h0 : 0 ≤ l) (h1 : l ≤ h) (h2 : h ≤ len) (hc : len ≤ cap) : (Instr.sliceBounds isS len cap (lo.map a.eval) (hi.map a.eval) none).run P w = .ok (l.toNat, h.toNat, cap) w := by
  have e2 : ∃ v, hi.map a.eval = v ∧ (∀ code, match v with | some v => (Instr.sliceBound v cap code).run P w = .ok h.toNat w | none => h = len) := by
    refine ⟨_, rfl, fun code => ?_⟩
    rcases bnd_lo (P := P) (code := code) (y := cap) g hh (by omega) (by omega) with ⟨e, e'⟩ | ⟨v, e, e'⟩
    · simp [e, e']
    · simp only [e]; exact e'
  have e1 : ∃ v, lo.map a.eval = v ∧ (∀ code, match v with | some v => (Instr.sliceBound v h.toNat code).run P w = .ok l.toNat w | none => l = 0) := by
    refine ⟨_, rfl, fun code => ?_⟩
    rcases bnd_lo (P := P) (code := code) (y := h.toNat) g hl (by omega) (by omega) with ⟨e, e'⟩ | ⟨v, e, e'⟩
    · simp [e, e']
    · simp only [e]; exact e'
  obtain ⟨v2, r2, p2⟩ := e2
  obtain ⟨v1, r1, p1⟩ := e1
  rw [r1, r2]
  cases v1 <;> cases v2
  · simp only at p1 p2
    have := p1 .sliceB; have := p2 .sliceB
    subst_vars
    simp [Instr.sliceBounds]
  · have q := p1 .sliceB
    simp only at q p2
    subst q
    simp [Instr.sliceBounds, p2]
  · have q := p2 .sliceB
    simp only at q p1
    subst q
    have p := p1 (if (none : Option Value).isSome then BoundsCode.slice3C else BoundsCode.sliceB)
    simp only [Int.toNat_natCast] at p
    simp [Instr.sliceBounds] at p ⊢
    simp [p]
  · simp only at p1 p2
    simp [Instr.sliceBounds, p2, p1]
theorem sliceQ_sound (g : GamW C st φ a w) {t : TypeId} {x : AV} {xv : Value} {lo hi mx : Option Operand} (hx : RepV φ st.H w (okG C φ st.H) x xv) {K : AV → Prop}
    (h : sliceQ P st.H t x (lo.map st.ev) (hi.map st.ev) (mx.map st.ev) K) :
    ∃ v r, K v ∧ RepV φ st.H w (okG C φ st.H) v r ∧ (Instr.sliceAt t xv (lo.map a.eval) (hi.map a.eval) (mx.map a.eval)).run P w = .ok r w := by
  unfold sliceQ at h
  split at h
  · rename_i s
    obtain ⟨ht, hm, h⟩ := h
    obtain rfl := inv_s hx
    have hu := tIsStr_some ht
    cases mx with
    | some m => cases hm
    | none =>
      split at h
      · rename_i l hh' e1 e2
        obtain ⟨h0, h1, h2, hK⟩ := h
        have hb := run_sliceBounds (P := P) (isS := false) (cap := s.size) g e1 e2 h0 h1 h2 (Nat.le_refl _)
        exact ⟨_, _, hK.out, RepV.of (.s rfl), by simp [Instr.sliceAt, run_underlying hu, Instr.slice, hb]⟩
      · exact h.elim
  · rename_i sz es
    split at h
    · rename_i e sz' ht
      obtain ⟨rfl, hm, h⟩ := h
      obtain ⟨hu, i, hie, his⟩ := tElem_some ht
      cases mx with
      | some m => cases hm
      | none =>
        split at h
        · rename_i l hh' e1 e2
          obtain ⟨h0, h1, h2, hK0⟩ := h
          have hK := hK0.out
          have h3 : Rep w (okG C φ st.H) (.lst sz' es) xv := hx
          have key : ∀ (A : Option Addr) (c : Nat), es.length ≤ c → (Instr.sliceAt t (.slice A es.length c) (lo.map a.eval) (hi.map a.eval) none).run P w =
              .ok (.slice (if c = l.toNat then A else A.map (·.add (l.toNat * sz'))) (hh'.toNat - l.toNat) (c - l.toNat)) w := by
            intro A c hc
            have hb := run_sliceBounds (P := P) (isS := true) (cap := c) g e1 e2 h0 h1 h2 hc
            simp [Instr.sliceAt, run_underlying hu, Instr.slice, hb, run_sizeOf' hie, his]
          cases h3 with
          | lst0 =>
            rename_i A c
            have k := key A c (by simp)
            simp only [List.length_nil] at k
            have hz : ((List.take hh'.toNat ([] : List AV)).drop l.toNat) = [] := by simp
            rw [hz] at hK
            have hzero : hh'.toNat - l.toNat = 0 := by simp at h2; omega
            rw [hzero] at k
            exact ⟨_, _, hK, RepV.of .lst0, k⟩
          | lst hsz hc hs hk hb hd h1' hr =>
            rename_i A c arr ty fr vs rest
            obtain ⟨b, o, sp⟩ := A
            simp only at hs hk hb hd; subst hs
            have k := key (some ⟨b, o, none⟩) c hc
            by_cases hemp : ((es.take hh'.toNat).drop l.toNat) = []
            · rw [hemp] at hK
              have hzero : hh'.toNat - l.toNat = 0 := by
                have := congrArg List.length hemp; simp at this; omega
              rw [hzero] at k
              exact ⟨_, _, hK, RepV.of .lst0, k⟩
            · have hlen : ((es.take hh'.toNat).drop l.toNat).length = hh'.toNat - l.toNat := by simp; omega
              have hpos : 0 < hh'.toNat - l.toNat := by
                rw [← hlen]; exact List.length_pos_iff.2 hemp
              have hcl : c ≠ l.toNat := by omega
              rw [if_neg hcl] at k
              simp only [Option.map_some, add_none] at k
              have hcl2 : CellsAt w b o vs := ⟨arr, ty, fr, rest, hb, hd⟩
              obtain ⟨arr2, ty2, fr2, rest2, hb2, hd2⟩ := hcl2.drop (l.toNat * sz')
              have hr2 := hr.drop (l.toNat * sz')
              rw [flats_drop hsz] at hr2
              have hes : es.drop l.toNat = ((es.take hh'.toNat).drop l.toNat) ++ es.drop hh'.toNat := by
                have hmx : es.drop l.toNat = (es.take hh'.toNat ++ es.drop hh'.toNat).drop l.toNat := by rw [List.take_append_drop]
                rw [hmx, List.drop_append_of_le_length (by simp; omega)]
              rw [hes] at hr2
              have hfl : flats (((es.take hh'.toNat).drop l.toNat) ++ es.drop hh'.toNat) = flats ((es.take hh'.toNat).drop l.toNat) ++ flats (es.drop hh'.toNat) := by simp [flats]
              rw [hfl] at hr2
              obtain ⟨as, bs, hab, ha, -⟩ := hr2.split
              rw [hab] at hd2
              have hrep := Rep.lst (w := w) (ok := okG C φ st.H) (sz := sz') (es := (es.take hh'.toNat).drop l.toNat) (a := ⟨b, o + l.toNat * sz', none⟩) (c := c - l.toNat) (arr := arr2) (ty := ty2) (fr := fr2) (vs := as) (rest := bs ++ rest2)
                (fun e he => hsz e (List.mem_of_mem_take (List.mem_of_mem_drop he))) (by rw [hlen]; omega) rfl hk hb2 (by rw [hd2, List.append_assoc])
                (fun v hv => h1' v (List.mem_of_mem_drop (i := l.toNat * sz') (by rw [hab]; simp [hv]))) ha
              rw [hlen] at hrep
              exact ⟨_, _, hK, RepV.of hrep, k⟩
        · exact h.elim
    · exact h.elim
  · rename_i hh n
    split at h
    · rename_i ty sz es e sz' hH ht
      obtain ⟨rfl, hm, h⟩ := h
      obtain ⟨hu, i, hie, his⟩ := tElem_some ht
      cases mx with
      | some m => cases hm
      | none =>
        split at h
        · rename_i l h' e1 e2
          obtain ⟨h0, h1, h2, hK⟩ := h
          obtain ⟨ty1, sz1, es1, A, m1, c, hH1, hφ, hn, rfl⟩ := hx
          rw [hH] at hH1
          cases hH1
          obtain ⟨xs, hown, -⟩ := g.own _ _ hH
          have hA : (m1 = 0 ∧ c = 0 ∧ n = 0) ∨ ∃ gb, A = some ⟨gb, 0, none⟩ ∧ n ≤ c := by
            rcases hown.cases with ⟨h, -, a, h'⟩ | ⟨g', cap, cur, h, -, -, h4, -⟩
            · rw [hφ] at h'; cases h'; exact .inl ⟨rfl, rfl, by omega⟩
            · rw [hφ] at h; cases h; exact .inr ⟨_, rfl, by omega⟩
          have hnc : n ≤ c := by rcases hA with ⟨_, _, h⟩ | ⟨_, _, h⟩ <;> omega
          have hb := run_sliceBounds (P := P) (isS := true) (cap := c) g e1 e2 h0 h1 h2 hnc
          have key : (Instr.sliceAt t (.slice A n c) (lo.map a.eval) (hi.map a.eval) none).run P w =
              .ok (.slice (if c = l.toNat then A else A.map (·.add (l.toNat * sz'))) (h'.toNat - l.toNat) (c - l.toNat)) w := by
            simp [Instr.sliceAt, run_underlying hu, Instr.slice, hb, run_sizeOf' hie, his]
          cases lo with
          | none =>
            have hl0 : l = 0 := by simp [bndA] at e1; exact e1.symm
            subst hl0
            refine ⟨_, _, hK, ?_, key⟩
            have hA2 : (if c = (0 : Int).toNat then A else A.map (·.add ((0 : Int).toNat * sz'))) = A := by
              split
              · rfl
              · rcases hA with ⟨_, h, _⟩ | ⟨gb, rfl, _⟩
                · omega
                · simp [add_none]
            rw [hA2]
            exact ⟨_, _, _, A, m1, c, hH, hφ, by omega, by simp⟩
          | some lo' =>
            refine ⟨_, _, hK, ?_, key⟩
            refine ⟨_, _, _, A, m1, c, _, _, hH, hφ, by omega, rfl, fun hp => ?_⟩
            rcases hA with ⟨_, _, h⟩ | ⟨gb, rfl, hle⟩
            · omega
            · refine ⟨gb, rfl, ?_, by omega⟩
              rw [if_neg (by omega)]
              simp [add_none]
        · exact h.elim
    · exact h.elim
  · rename_i hh i0 n
    split at h
    · rename_i ty sz es e sz' hH ht
      obtain ⟨rfl, hm, h⟩ := h
      obtain ⟨hu, i, hie, his⟩ := tElem_some ht
      cases mx with
      | some m => cases hm
      | none =>
        split at h
        · rename_i l h' e1 e2
          obtain ⟨h0, h1, h2, hK⟩ := h
          obtain ⟨ty1, sz1, es1, A, m1, c, A', c', hH1, hφ, hn, rfl, hpos⟩ := hx
          rw [hH] at hH1
          cases hH1
          have hnc : n ≤ c' := by
            rcases Nat.eq_zero_or_pos n with h | h
            · omega
            · obtain ⟨_, _, _, h⟩ := hpos (.inl h); exact h.1
          have hb := run_sliceBounds (P := P) (isS := true) (cap := c') g e1 e2 h0 h1 h2 hnc
          have key : (Instr.sliceAt t (.slice A' n c') (lo.map a.eval) (hi.map a.eval) none).run P w =
              .ok (.slice (if c' = l.toNat then A' else A'.map (·.add (l.toNat * sz'))) (h'.toNat - l.toNat) (c' - l.toNat)) w := by
            simp [Instr.sliceAt, run_underlying hu, Instr.slice, hb, run_sizeOf' hie, his]
          refine ⟨_, _, hK, ?_, key⟩
          refine ⟨_, _, _, A, m1, c, _, _, hH, hφ, by omega, rfl, fun hp => ?_⟩
          obtain ⟨gb, rfl, rfl, hle⟩ := hpos (by omega)
          refine ⟨gb, rfl, ?_, by omega⟩
          rw [if_neg (by omega)]
          simp [add_none, Nat.add_mul]
        · exact h.elim
    · exact h.elim
  · exact h.elim
theorem tIsBytes_some {t : TypeId} (h : tIsBytes P t = true) : ∃ e, P.underlying t = some (.slice e) ∧ P.underlying e = some (.int .u8) := by
  unfold tIsBytes at h
  split at h
  · rename_i e he
    split at h
    · rename_i h2; exact ⟨e, he, h2⟩
    · cases h
  · cases h
theorem u8s_ok : ∀ {es : List AV} {xs : List Int}, u8s es = some xs → es = xs.map fun n => .s (.int .u8 n)
  | [], xs, h => by cases h; rfl
  | c :: cs, xs, h => by
    unfold u8s at h
    split at h
    · rename_i h1; cases h1
    · rename_i n cs' h1
      cases h1
      split at h
      · rename_i r hr
        cases h
        rw [u8s_ok hr]; rfl
      · cases h
    · cases h
theorem u8s_flats : ∀ xs : List Int, flats (xs.map fun n => AV.s (.int .u8 n)) = xs.map fun n => AV.s (.int .u8 n)
  | [] => rfl
  | x :: xs => by
    have := u8s_flats xs
    simp only [flats, List.map_cons, List.flatMap_cons, flat] at this ⊢
    rw [this]; rfl
theorem u8s_reps {w : World} {ok : Nat → Prop} : ∀ {xs : List Int} {vs : List Value}, Reps w ok (xs.map fun n => .s (.int .u8 n)) vs → vs = xs.map (Value.int .u8)
  | [], vs, h => by cases h; rfl
  | x :: xs, vs, h => by
    simp only [List.map_cons] at h
    cases h with
    | cons h t =>
      have := u8s_reps t
      cases h
      rw [this]; rfl
theorem run_txt0 {src dst : TypeId} {w : World} (h1 : tIsBytes P src = true) (h2 : tIsStr P dst = true) (a : Option Addr) (c : Nat) : (convert src dst (.slice a 0 c)).run P w = .ok (.string (strOfNums [])) w := by
  obtain ⟨e, hs, he⟩ := tIsBytes_some h1
  rw [run_convert_bytes_string w src dst e a 0 c hs he (tIsStr_some h2)]
  cases a with
  | none => simp [Conv.bytesToString, strOfNums, ByteArray.empty, ByteArray.emptyWithCapacity]; rfl
  | some a =>
    rw [run_bytesToString w a 0 c [] (by simp [loadCells, loadCellsFrom])]
    rfl
theorem run_txt {src dst : TypeId} {w : World} (h1 : tIsBytes P src = true) (h2 : tIsStr P dst = true) {b o n c : Nat} {xs : List Int} (hc : CellsAt w b o (xs.map (Value.int .u8))) (hn : xs.length = n) : (convert src dst (.slice (some ⟨b, o, none⟩) n c)).run P w = .ok (.string (strOfNums xs)) w := by
  obtain ⟨e, hs, he⟩ := tIsBytes_some h1
  refine run_convert_bytes_arg w src e hs he b o n c xs hn (fun i hi => ?_) dst (tIsStr_some h2)
  refine hc.cell ?_
  have : i < xs.length := by omega
  simp [List.getD, List.getElem?_eq_getElem this]
theorem convQ_sound (g : GamW C st φ a w) {src dst : TypeId} {x : AV} {xv : Value} (hx : RepV φ st.H w (okG C φ st.H) x xv) {K : AV → Prop} (h : convQ P st.H src dst x K) :
    ∃ v r, K v ∧ RepV φ st.H w (okG C φ st.H) v r ∧ (convert src dst xv).run P w = .ok r w := by
  unfold convQ at h
  split at h
  · have e := inv_s hx
    split at h
    · rename_i e1 e2
      exact ⟨_, _, h.out, RepV.of (.s rfl), by simp [e, convert, run_underlying (tKind_some e1), run_underlying (tKind_some e2), Conv.intToInt]⟩
    · exact h.elim
  · rename_i sz es
    obtain ⟨h1, h2, h⟩ := h
    split at h
    · rename_i xs hxs
      have hes := u8s_ok hxs
      have h3 : Rep w (okG C φ st.H) (.lst sz es) xv := hx
      cases h3 with
      | lst0 => cases hxs; exact ⟨_, _, h.out, RepV.of (.s rfl), run_txt0 h1 h2 _ _⟩
      | lst hsz hc hs hk hb hd h1' hr =>
        rename_i A c arr ty fr vs rest
        obtain ⟨b, o, sp⟩ := A
        simp only at hs hk hb hd; subst hs
        rw [hes, u8s_flats] at hr
        have hv := u8s_reps hr
        subst hv
        exact ⟨_, _, h.out, RepV.of (.s rfl), run_txt h1 h2 ⟨arr, ty, fr, rest, hb, hd⟩ (by rw [hes]; simp)⟩
    · exact h.elim
  · rename_i k n
    split at h
    · rename_i ty sz es hH
      obtain ⟨h1, h2, h⟩ := h
      split at h
      · rename_i xs hxs
        have hes := u8s_ok hxs
        obtain ⟨ty1, sz1, es1, A, m1, c, hH1, hφ, hn, rfl⟩ := hx
        rw [hH] at hH1
        cases hH1
        have hlx : xs.length = n := by
          have := congrArg List.length hes
          simp at this; omega
        by_cases hz : n = 0
        · subst hz
          have : xs = [] := List.eq_nil_of_length_eq_zero hlx
          subst this
          exact ⟨_, _, h.out, RepV.of (.s rfl), run_txt0 h1 h2 _ _⟩
        · obtain ⟨ys, hown, hr, -, -⟩ := g.own _ _ hH
          rcases hown.cases with ⟨q, -⟩ | ⟨gb, cap, cur, q, -, hb, -, -, -, htk⟩
          · omega
          · rw [hφ] at q; cases q
            have hsp : es = es.take n ++ es.drop n := (List.take_append_drop n es).symm
            have hfl : flats es = flats (es.take n) ++ flats (es.drop n) := by
              unfold flats; rw [← List.flatMap_append, List.take_append_drop]
            rw [hfl, hes, u8s_flats] at hr
            obtain ⟨as, bs, hab, ha, -⟩ := hr.split
            have hv := u8s_reps ha
            subst hv
            have hcl : CellsAt w gb 0 (xs.map (Value.int .u8)) := by
              refine ⟨cur, _, _, bs ++ cur.toList.drop (es.length * sz), hb, ?_⟩
              rw [← List.append_assoc, ← hab, ← htk, List.drop_zero, List.take_append_drop]
            exact ⟨_, _, h.out, RepV.of (.s rfl), run_txt h1 h2 hcl hlx⟩
      · exact h.elim
    · exact h.elim
  · obtain ⟨h1, h2, h⟩ := h
    split at h
    · rename_i xs hxs
      cases hxs
      have h3 : Rep w (okG C φ st.H) .nil xv := hx
      cases h3
      exact ⟨_, _, h.out, RepV.of (.s rfl), run_txt0 h1 h2 _ _⟩
    · exact h.elim
  · exact h.elim
theorem opQ0_sound (g : GamW C st φ a w) {op : Op} {o : Oper} (ho : o.op = op) {K : AV → Prop} (h : opQ0 P st op K) :
    ∃ v r, K v ∧ RepV φ st.H w (okG C φ st.H) v r ∧ (execOp a.eval o).run P w = .ok (.value r) w := by
  unfold opQ0 at h
  split at h
  case h_1 x => exact ⟨_, _, h, g.ev x, by simp [execOp, ho]⟩
  case h_2 x => exact ⟨_, _, h, g.ev x, by simp [execOp, ho]⟩
  case h_3 c x y =>
    split at h
    · rename_i t hc
      have hv := g.ev c
      rw [hc] at hv
      have e := inv_s hv
      cases t
      · exact ⟨_, _, h, g.ev y, by simp [execOp, ho, e, asBool]⟩
      · exact ⟨_, _, h, g.ev x, by simp [execOp, ho, e, asBool]⟩
    · exact h.elim
  case h_4 t x =>
    obtain ⟨v, r, h1, h2, h3⟩ := loadQ_sound g (g.ev x) h
    exact ⟨v, r, h1, h2, by simp [execOp, ho, h3]⟩
  case h_5 x =>
    have hv := g.ev x
    split at h
    · rename_i cs hc
      rw [hc] at hv
      obtain ⟨b, o', vs, e, -⟩ := Rep.rp_inv (show Rep w (okG C φ st.H) _ _ from hv)
      refine ⟨_, _, h, hv, ?_⟩
      rw [e]; simp [execOp, ho, e]
    · rename_i k off hc
      rw [hc] at hv
      obtain ⟨ty, cs, gb, hH, hφ, e⟩ := id hv
      refine ⟨_, _, h, hv, ?_⟩
      rw [e]; simp [execOp, ho, e]
    · rename_i k i off hc
      rw [hc] at hv
      obtain ⟨ty, sz, es, gb, m, c, hH, hφ, hi, e⟩ := id hv
      refine ⟨_, _, h, hv, ?_⟩
      rw [e]; simp [execOp, ho, e]
    · rename_i f cs hc
      rw [hc] at hv
      have h2 : Rep w (okG C φ st.H) (.fn f cs) (a.eval x) := hv
      generalize hz : a.eval x = z at h2 hv
      cases h2
      exact ⟨_, _, h, hv, by simp [execOp, ho, hz]⟩
    · rename_i f hs hc
      rw [hc] at hv
      obtain ⟨e, -⟩ := id hv
      refine ⟨_, _, h, hv, ?_⟩
      rw [e]; simp [execOp, ho, e]
    · exact h.elim
  case h_6 bop t x y yt =>
    obtain ⟨v, r, h1, h2, h3⟩ := binQ_sound g x y (g.ev x) (g.ev y) h
    refine ⟨v, r, h1, h2, ?_⟩
    have h4 : ((do eqGuard bop t x y (a.eval x) (a.eval y); binOp bop t (a.eval x) (a.eval y) : Sem Value) >>= fun v => (Pure.pure (Next.value v) : Sem Next)).run P w = .ok (.value r) w := by
      rw [Sem.run_bind, h3]; rfl
    simpa [execOp, ho] using h4
  case h_7 uop t x =>
    obtain ⟨v, r, h1, h2, h3⟩ := unQ_sound (P := P) g (g.ev x) h
    exact ⟨v, r, h1, h2, by simp [execOp, ho, h3]⟩
  case h_8 src dst x =>
    obtain ⟨v, r, h1, h2, h3⟩ := convQ_sound g (g.ev x) h
    exact ⟨v, r, h1, h2, by simp [execOp, ho, h3]⟩
  case h_9 f first caps =>
    obtain ⟨h0, h⟩ := h
    obtain ⟨v, h1, h2⟩ := mkFnQ_sound g h
    have e : first = #[] := Array.eq_empty_of_size_eq_zero h0
    exact ⟨v, _, h1, h2, by simp [execOp, ho, Instr.makeFunc, e]⟩
  case h_10 t x lo hi mx =>
    obtain ⟨v, r, h1, h2, h3⟩ := sliceQ_sound g (g.ev x) h
    exact ⟨v, r, h1, h2, by simp [execOp, ho, h3]⟩
  case h_11 s x f =>
    have hv := g.ev x
    have key : ∀ {off : Nat}, fOff P s f = some off → ∀ b k, a.eval x = .pointer (some ⟨b, k, none⟩) → (execOp a.eval o).run P w = .ok (.value (.pointer (some ⟨b, k + off, none⟩))) w := by
      intro off hf b k e
      unfold fOff at hf
      split at hf
      · rename_i fs hu
        split at hf
        · rename_i fd hfd
          split at hf
          · rename_i i hi
            split at hf
            · cases hf
            · rename_i hne
              cases hf
              simp [execOp, ho, e, Instr.fieldAt, Instr.sureAddr, run_underlying hu, hfd, fieldPlace, run_sizeOf' hi, hne, add_none]
          · cases hf
        · cases hf
      · cases hf
    split at h
    · rename_i off cs hf hc
      rw [hc] at hv
      obtain ⟨b, k, vs, e, hok, hcl, h1, hr⟩ := Rep.rp_inv (show Rep w (okG C φ st.H) _ _ from hv)
      exact ⟨_, _, h, RepV.of (Rep.rp_mk hok (hcl.drop _) (fun v hv => h1 v (List.mem_of_mem_drop hv)) (hr.drop _)), key hf _ _ e⟩
    · rename_i off k o' hf hc
      rw [hc] at hv
      obtain ⟨ty, cs, gb, hH, hφ, e⟩ := hv
      exact ⟨_, .pointer (some ⟨gb, o' + off, none⟩), h, ⟨ty, cs, gb, hH, hφ, rfl⟩, key hf _ _ e⟩
    · rename_i off k i o' hf hc
      rw [hc] at hv
      obtain ⟨ty, sz, es, gb, m, c, hH, hφ, hi, e⟩ := hv
      exact ⟨_, .pointer (some ⟨gb, i * sz + (o' + off), none⟩), h, ⟨ty, sz, es, gb, m, c, hH, hφ, hi, rfl⟩, by rw [← Nat.add_assoc]; exact key hf _ _ e⟩
    · exact h.elim
  case h_12 s x f =>
    have hv := g.ev x
    split at h
    · rename_i off gz cs hf hc
      rw [hc] at hv
      obtain ⟨vs, e, hr⟩ := inv_agg hv
      unfold fPart at hf
      split at hf
      · rename_i fs hu
        split at hf
        · rename_i fd hfd
          split at hf
          · rename_i gz' hg'
            cases hf
            obtain ⟨v, r, h1, h2, h3⟩ := partQ_sound (φ := φ) (H := st.H) hg' hr h
            exact ⟨v, r, h1, h2, by simp [execOp, ho, e, Instr.field, run_underlying hu, hfd, asAgg, h3]⟩
          · cases hf
        · cases hf
      · cases hf
    · exact h.elim
  case h_13 t x i =>
    obtain ⟨v, r, h1, h2, h3⟩ := idxQ_sound g (g.ev x) (g.ev i) h
    exact ⟨v, r, h1, h2, by simp [execOp, ho, h3]⟩
  case h_14 t x i =>
    have hv := g.ev x
    have hi := g.ev i
    split at h
    · rename_i s k n e1 e2
      obtain ⟨ht, h0, b, hb, hK⟩ := h
      rw [e1] at hv
      rw [e2] at hi
      have f1 := inv_s hv
      have f2 := inv_s hi
      exact ⟨_, _, hK.out, RepV.of (.s rfl), by simp [execOp, ho, f1, f2, Instr.index, asIntOf, run_underlying (tIsStr_some ht), h0, hb]⟩
    · rename_i cs k n e1 e2
      obtain ⟨len, sz, gz, ht, h0, hn, hK⟩ := h
      rw [e1] at hv
      rw [e2] at hi
      have f2 := inv_s hi
      obtain ⟨vs, f1, hr⟩ := inv_agg hv
      unfold tArrP at ht
      split at ht
      · rename_i len' e hu
        split at ht
        · rename_i inf g' hinf hg'
          cases ht
          obtain ⟨v, r, h1, h2, h3⟩ := partQ_sound (φ := φ) (H := st.H) hg' hr hK
          exact ⟨v, r, h1, h2, by simp [execOp, ho, f1, f2, Instr.index, asIntOf, run_underlying hu, run_sizeOf' hinf, h0, hn, h3]⟩
        · cases ht
      · cases ht
    · exact h.elim
  case h_15 x i =>
    have hv := g.ev x
    split at h
    · rename_i cs hc
      obtain ⟨v, hi, hK⟩ := h
      rw [hc] at hv
      obtain ⟨vs, e, hr⟩ := inv_tup hv
      obtain ⟨r, hr1, hr2⟩ := hr.get hi
      exact ⟨v, r, hK, hr2, by simp [execOp, ho, e, Instr.extract, hr1]⟩
    · exact h.elim
  case h_16 c =>
    obtain ⟨cal, args, tys⟩ := c
    unfold biQ at h
    split at h
    · rename_i x t e1 e2 e3
      simp only at e1 e2 e3
      subst e1
      obtain rfl : args = #[x] := by apply Array.ext'; simpa using e2
      obtain rfl : tys = #[t] := by apply Array.ext'; simpa using e3
      obtain ⟨v, r, h1, h2, h3⟩ := lenQ_sound (ty := o.type) g (g.ev x) h
      exact ⟨v, r, h1, h2, by simp [execOp, ho, resolve, invoke, builtin, h3]⟩
    · rename_i x y e1 e2
      simp only at e1 e2
      subst e1
      obtain rfl : args = #[x, y] := by apply Array.ext'; simpa using e2
      obtain ⟨v, r, h1, h2, h3⟩ := mm2_sound (P := P) (f2 := Builtin.max2) (fun k n k' m => by simp [Builtin.max2, mxI]) (g.ev x) (g.ev y) h
      exact ⟨v, r, h1, h2, by simp [execOp, ho, resolve, invoke, builtin, Builtin.max_, h3]⟩
    · rename_i x y e1 e2
      simp only at e1 e2
      subst e1
      obtain rfl : args = #[x, y] := by apply Array.ext'; simpa using e2
      obtain ⟨v, r, h1, h2, h3⟩ := mm2_sound (P := P) (f2 := Builtin.min2) (fun k n k' m => by simp [Builtin.min2, mnI]) (g.ev x) (g.ev y) h
      exact ⟨v, r, h1, h2, by simp [execOp, ho, resolve, invoke, builtin, Builtin.min_, h3]⟩
    · exact h.elim
  case h_17 => exact h.elim
end
end Go.Proofs.Ytdnndlalflahhaa.Ev
