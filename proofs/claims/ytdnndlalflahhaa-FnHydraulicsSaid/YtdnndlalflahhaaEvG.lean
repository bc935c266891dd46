/- New blocks and rows, stores, appends: how the abstract state moves on. -/
import Derived.Test.YtdnndlalflahhaaEvF
set_option linter.unusedVariables false
set_option linter.unusedSimpArgs false
namespace Go.Proofs.Ytdnndlalflahhaa.Ev
open Go Go.RowKit
mutual
def killV (h : Nat) : AV → AV
  | .own k n => if k = h then .junk else .own k n
  | .osl k i n => if k = h then .junk else .osl k i n
  | .eptr k i o => if k = h then .junk else .eptr k i o
  | .nst k n => if k = h then .junk else .nst k n
  | .nptr k i => if k = h then .junk else .nptr k i
  | .inr k i => if k = h then .junk else .inr k i
  | .agg cs => .agg (killVs h cs)
  | .tup cs => .tup (killVs h cs)
  | .s v => .s v
  | .nil => .nil
  | .lst sz es => .lst sz es
  | .rp cs => .rp cs
  | .fn f cs => .fn f cs
  | .ptr k o => .ptr k o
  | .clo f hs => .clo f hs
  | .junk => .junk
def killVs (h : Nat) : List AV → List AV
  | [] => []
  | c :: cs => killV h c :: killVs h cs
end
theorem killVs_map (h : Nat) : ∀ cs : List AV, killVs h cs = cs.map (killV h)
  | [] => rfl
  | c :: cs => by simp only [killVs, List.map_cons, killVs_map h cs]
def killO (h : Nat) : OB → OB
  | .box ty cs => .box ty (killVs h cs)
  | .row ty sz es => .row ty sz es
  | .nest ty tyI szI rows => .nest ty tyI szI rows
def St.kill (st : St) (h : Nat) : St := { env := fun t => killV h (st.env t), H := fun k => (st.H k).map (killO h) }
mutual
theorem killV_idem (h : Nat) : ∀ v : AV, killV h (killV h v) = killV h v
  | .own k n => by simp only [killV]; by_cases e : k = h <;> simp [e, killV]
  | .osl k i n => by simp only [killV]; by_cases e : k = h <;> simp [e, killV]
  | .eptr k i o => by simp only [killV]; by_cases e : k = h <;> simp [e, killV]
  | .nst k n => by simp only [killV]; by_cases e : k = h <;> simp [e, killV]
  | .nptr k i => by simp only [killV]; by_cases e : k = h <;> simp [e, killV]
  | .inr k i => by simp only [killV]; by_cases e : k = h <;> simp [e, killV]
  | .agg cs => by simp only [killV, killVs_idem h cs]
  | .tup cs => by simp only [killV, killVs_idem h cs]
  | .s _ => rfl
  | .nil => rfl
  | .lst _ _ => rfl
  | .rp _ => rfl
  | .fn _ _ => rfl
  | .ptr _ _ => rfl
  | .clo _ _ => rfl
  | .junk => rfl
theorem killVs_idem (h : Nat) : ∀ cs : List AV, killVs h (killVs h cs) = killVs h cs
  | [] => rfl
  | c :: cs => by simp only [killVs, killV_idem h c, killVs_idem h cs]
end
section
variable {P : Program} {C : Ctx P} {st : St} {φ : Nat → Value} {a : Act} {w : World}
theorem killRep {ok : Nat → Prop} {h : Nat} {v : AV} {x : Value} (hr : RepV φ st.H w ok v x) : RepV φ (st.kill h).H w ok (killV h v) x := by
  refine RepV.lift (f := killV h) (p := fun _ => True) (fun _ _ _ _ => trivial) (fun _ _ _ _ => trivial) (fun cs => by simp only [killV, killVs_map]) (fun cs => by simp only [killV, killVs_map]) (fun v x hl _ hr => ?_) v x trivial hr
  cases v with
  | own k n =>
    simp only [killV]
    split
    · trivial
    · obtain ⟨ty, sz, es, A, m, c, hH, r⟩ := hr
      exact ⟨ty, sz, es, A, m, c, by simp [St.kill, hH, killO], r⟩
  | osl k i n =>
    simp only [killV]
    split
    · trivial
    · obtain ⟨ty, sz, es, A, m, c, A', c', hH, r⟩ := hr
      exact ⟨ty, sz, es, A, m, c, A', c', by simp [St.kill, hH, killO], r⟩
  | eptr k i o =>
    simp only [killV]
    split
    · trivial
    · obtain ⟨ty, sz, es, gb, m, c, hH, r⟩ := hr
      exact ⟨ty, sz, es, gb, m, c, by simp [St.kill, hH, killO], r⟩
  | nst k n =>
    simp only [killV]
    split
    · trivial
    · obtain ⟨ty, tyI, szI, rows, fs, hH, r⟩ := hr
      exact ⟨ty, tyI, szI, rows, fs, by simp [St.kill, hH, killO], r⟩
  | nptr k i =>
    simp only [killV]
    split
    · trivial
    · obtain ⟨ty, tyI, szI, rows, gb, m, c, fs, hH, r⟩ := hr
      exact ⟨ty, tyI, szI, rows, gb, m, c, fs, by simp [St.kill, hH, killO], r⟩
  | inr k i =>
    simp only [killV]
    split
    · trivial
    · obtain ⟨ty, tyI, szI, rows, fo, fs, hH, r⟩ := hr
      exact ⟨ty, tyI, szI, rows, fo, fs, by simp [St.kill, hH, killO], r⟩
  | ptr k o =>
    obtain ⟨ty, cs, gb, hH, r⟩ := hr
    exact ⟨ty, killVs h cs, gb, by simp [St.kill, hH, killO], r⟩
  | clo f hs =>
    obtain ⟨e, hall⟩ := hr
    refine ⟨e, fun k hk => ?_⟩
    obtain ⟨ty, cs, hH⟩ := hall k hk
    exact ⟨ty, killVs h cs, by simp [St.kill, hH, killO]⟩
  | junk => trivial
  | agg => simp [leafV] at hl
  | tup => simp [leafV] at hl
  | _ => exact hr
theorem GamW.kill (g : GamW C st φ a w) (h : Nat) : GamW C (st.kill h) φ a w := by
  have hs : ∀ k, ((st.kill h).H k).isSome = (st.H k).isSome := fun k => by simp [St.kill]
  have hok : okG C φ (st.kill h).H = okG C φ st.H := by funext b; simp only [okG, hs]
  refine ⟨g.size, g.defers, g.below, fun k b h1 => g.mine k b (by rw [← hs]; exact h1), fun k hk h1 => g.keep k hk (by rw [← hs]; exact h1), fun i k b hne h1 h2 => g.disj i k b hne (by rw [← hs]; exact h1) (by rw [← hs]; exact h2), fun k ob hk => ?_, fun t => by rw [hok]; exact killRep (g.rep t)⟩
  rw [hok]
  simp only [St.kill] at hk
  cases hH : st.H k with
  | none => rw [hH] at hk; cases hk
  | some ob0 =>
    rw [hH] at hk
    cases hk
    have ho := g.own k ob0 hH
    cases ob0 with
    | row ty sz es => exact ho
    | nest ty tyI szI rows => exact ho
    | box ty cs =>
      obtain ⟨gb, arr, h1, h3, h4, h5⟩ := ho
      simp only [killO] at *
      refine ⟨gb, arr, h1, h3, h4, by simpa [killVs_map] using h5.1, fun i x v hx hv => ?_⟩
      rw [killVs_map, List.getElem?_map] at hx
      cases hc : cs[i]? with
      | none => rw [hc] at hx; cases hx
      | some c => rw [hc] at hx; cases hx; exact killRep (h5.2 i c v hc hv)
def NoRef (st : St) (h : Nat) : Prop := (∀ t, killV h (st.env t) = st.env t) ∧ ∀ k ty cs, st.H k = some (.box ty cs) → ∀ c ∈ cs, killV h c = c
theorem NoRef.kill (st : St) (h : Nat) : NoRef (st.kill h) h := by
  refine ⟨fun t => killV_idem h _, fun k ty cs hH c hc => ?_⟩
  simp only [St.kill] at hH
  cases hk : st.H k with
  | none => rw [hk] at hH; cases hH
  | some ob =>
    rw [hk] at hH
    cases ob with
    | row => simp [killO] at hH
    | nest => simp [killO] at hH
    | box ty' cs' =>
      simp only [Option.map_some, killO, Option.some.injEq, OB.box.injEq] at hH
      obtain ⟨-, rfl⟩ := hH
      rw [killVs_map] at hc
      obtain ⟨c', -, rfl⟩ := List.mem_map.1 hc
      exact killV_idem h c'
def dropH (H : Nat → Option OB) (src : Option Nat) : Nat → Option OB := fun k => if src = some k then none else H k
def St.move (st : St) (src : Option Nat) (d : Nat) (ob : OB) : St := { env := st.env, H := upd (dropH st.H src) d (some ob) }
theorem map_id_mem {f : AV → AV} : ∀ {cs : List AV}, cs.map f = cs → ∀ c ∈ cs, f c = c
  | c :: cs, h, d, hd => by
    simp only [List.map_cons, List.cons.injEq] at h
    rcases List.mem_cons.1 hd with e | e
    · rw [e]; exact h.1
    · exact map_id_mem h.2 d e
section move
variable {src : Option Nat} {d : Nat} {ob : OB} {fv : Value} {w' : World} {row : Option Nat}
theorem move_ok (g : GamW C st φ a w) (hblk : ∀ b, Blk fv b → w.heap.size ≤ b ∨ ∃ h, src = some h ∧ (st.H h).isSome = true ∧ Blk (φ h) b) (hd : st.H d = none ∨ src = some d) :
    ∀ b, okG C φ st.H b → b < w.heap.size → okG C (upd φ d fv) (st.move src d ob).H b := by
  intro b ⟨h1, h2⟩ hlt
  refine ⟨h1, fun k hk hb => ?_⟩
  by_cases e : k = d
  · subst e
    rw [upd_same] at hb
    rcases hblk b hb with h | ⟨h, hs, hal, hb'⟩
    · omega
    · exact h2 h hal hb'
  · rw [upd_ne _ _ e] at hb
    simp only [St.move, upd_ne _ _ e, dropH] at hk
    split at hk
    · cases hk
    · exact h2 k hk hb
theorem move_rep (g : GamW C st φ a w) (hno : ∀ h, src = some h → NoRef st h) (hrw : ∀ h, src = some h → ∃ ty sz es, st.H h = some (.row ty sz es)) (hd : st.H d = none ∨ src = some d)
    (hg : w.grownBy w' row) (hrow : ∀ b, row = some b → ∃ h, src = some h ∧ Blk (φ h) b)
    (hblk : ∀ b, Blk fv b → w.heap.size ≤ b ∨ ∃ h, src = some h ∧ (st.H h).isSome = true ∧ Blk (φ h) b)
    {v : AV} {x : Value} (hv : ∀ h, src = some h → killV h v = v) (hr : RepV φ st.H w (okG C φ st.H) v x) : RepV (upd φ d fv) (st.move src d ob).H w' (okG C (upd φ d fv) (st.move src d ob).H) v x := by
  have hbox : ∀ k ty cs, st.H k = some (.box ty cs) → (st.move src d ob).H k = some (.box ty cs) ∧ upd φ d fv k = φ k := by
    intro k ty cs hk
    have hkd : k ≠ d := by
      rintro rfl
      rcases hd with h | h
      · rw [hk] at h; cases h
      · obtain ⟨_, _, _, h⟩ := hrw k h; rw [hk] at h; cases h
    have hks : src ≠ some k := by
      intro h
      obtain ⟨_, _, _, h⟩ := hrw k h; rw [hk] at h; cases h
    exact ⟨by simp only [St.move, upd_ne _ _ hkd, dropH, if_neg hks]; exact hk, upd_ne _ _ hkd⟩
  have hnests : ∀ k ty tyI szI rows, st.H k = some (.nest ty tyI szI rows) → (st.move src d ob).H k = some (.nest ty tyI szI rows) ∧ upd φ d fv k = φ k := by
    intro k ty tyI szI rows hk
    have hkd : k ≠ d := by
      rintro rfl
      rcases hd with h | h
      · rw [hk] at h; cases h
      · obtain ⟨_, _, _, h⟩ := hrw k h; rw [hk] at h; cases h
    have hks : src ≠ some k := by
      intro h
      obtain ⟨_, _, _, h⟩ := hrw k h; rw [hk] at h; cases h
    exact ⟨by simp only [St.move, upd_ne _ _ hkd, dropH, if_neg hks]; exact hk, upd_ne _ _ hkd⟩
  have hrows : ∀ k ty sz es, st.H k = some (.row ty sz es) → src ≠ some k → (st.move src d ob).H k = some (.row ty sz es) ∧ upd φ d fv k = φ k := by
    intro k ty sz es hk hks
    have hkd : k ≠ d := by
      rintro rfl
      rcases hd with h | h
      · rw [hk] at h; cases h
      · exact hks h
    exact ⟨by simp only [St.move, upd_ne _ _ hkd, dropH, if_neg hks]; exact hk, upd_ne _ _ hkd⟩
  refine RepV.lift1 (p := fun v => ∀ h, src = some h → killV h v = v) (fun cs hp c hc h hs => ?_) (fun cs hp c hc h hs => ?_) (fun v x hl hv hr => ?_) hv hr
  · have := hp h hs
    simp only [killV, killVs_map, AV.agg.injEq] at this
    exact map_id_mem this c hc
  · have := hp h hs
    simp only [killV, killVs_map, AV.tup.injEq] at this
    exact map_id_mem this c hc
  cases v with
  | agg => simp [leafV] at hl
  | tup => simp [leafV] at hl
  | ptr k o =>
    obtain ⟨ty, cs, gb, hH, hφ, r⟩ := hr
    obtain ⟨e1, e2⟩ := hbox k ty cs hH
    exact ⟨ty, cs, gb, e1, by rw [e2]; exact hφ, r⟩
  | nst k n =>
    obtain ⟨ty, tyI, szI, rows, fs, hH, r⟩ := hr
    obtain ⟨e1, e2⟩ := hnests k ty tyI szI rows hH
    exact ⟨ty, tyI, szI, rows, fs, e1, by rw [e2]; exact r⟩
  | nptr k i =>
    obtain ⟨ty, tyI, szI, rows, gb, m, c, fs, hH, hφ, r⟩ := hr
    obtain ⟨e1, e2⟩ := hnests k ty tyI szI rows hH
    exact ⟨ty, tyI, szI, rows, gb, m, c, fs, e1, by rw [e2]; exact hφ, r⟩
  | inr k i =>
    obtain ⟨ty, tyI, szI, rows, fo, fs, hH, hφ, r⟩ := hr
    obtain ⟨e1, e2⟩ := hnests k ty tyI szI rows hH
    exact ⟨ty, tyI, szI, rows, fo, fs, e1, by rw [e2]; exact hφ, r⟩
  | eptr k i o =>
    obtain ⟨ty, sz, es, gb, m, c, hH, hφ, r⟩ := hr
    have hks : src ≠ some k := fun h => by have := hv k h; simp [killV] at this
    obtain ⟨e1, e2⟩ := hrows k ty sz es hH hks
    exact ⟨ty, sz, es, gb, m, c, e1, by rw [e2]; exact hφ, r⟩
  | own k n =>
    obtain ⟨ty, sz, es, A, m, c, hH, hφ, r⟩ := hr
    have hks : src ≠ some k := fun h => by have := hv k h; simp [killV] at this
    obtain ⟨e1, e2⟩ := hrows k ty sz es hH hks
    exact ⟨ty, sz, es, A, m, c, e1, by rw [e2]; exact hφ, r⟩
  | osl k i n =>
    obtain ⟨ty, sz, es, A, m, c, A', c', hH, hφ, r⟩ := hr
    have hks : src ≠ some k := fun h => by have := hv k h; simp [killV] at this
    obtain ⟨e1, e2⟩ := hrows k ty sz es hH hks
    exact ⟨ty, sz, es, A, m, c, A', c', e1, by rw [e2]; exact hφ, r⟩
  | clo f hs =>
    obtain ⟨e, hall⟩ := hr
    refine ⟨?_, fun k hk => ?_⟩
    · rw [e]
      congr 2
      apply List.map_congr_left
      intro k hk
      obtain ⟨ty, cs, hH⟩ := hall k hk
      exact (hbox k ty cs hH).2.symm
    · obtain ⟨ty, cs, hH⟩ := hall k hk
      exact ⟨ty, cs, (hbox k ty cs hH).1⟩
  | junk => trivial
  | _ =>
    exact Rep.mono (fun b hb hlt => move_ok g hblk hd b hb hlt) (fun b hb hlt => hg.block b hlt (fun e => by
      obtain ⟨h, hs, hb'⟩ := hrow b e.symm
      obtain ⟨ty, sz, es, hH⟩ := hrw h hs
      exact hb.2 h (by rw [hH]; rfl) hb')) hr
theorem GamW.move (g : GamW C st φ a w) (hno : ∀ h, src = some h → NoRef st h) (hrw : ∀ h, src = some h → ∃ ty sz es, st.H h = some (.row ty sz es)) (hd : st.H d = none ∨ src = some d)
    (hg : w.grownBy w' row) (hrow : ∀ b, row = some b → ∃ h, src = some h ∧ Blk (φ h) b)
    (hblk : ∀ b, Blk fv b → w.heap.size ≤ b ∨ ∃ h, src = some h ∧ (st.H h).isSome = true ∧ Blk (φ h) b)
    (hdn : d < 1000000) (hob : OwnOb (upd φ d fv) (st.move src d ob).H w' (okG C (upd φ d fv) (st.move src d ob).H) fv ob) : GamW C (st.move src d ob) (upd φ d fv) a w' := by
  have hrow' : ∀ b, row = some b → C.M b ∨ C.w0.heap.size ≤ b := by
    intro b hb
    obtain ⟨h, hs, hb'⟩ := hrow b hb
    obtain ⟨ty, sz, es, hH⟩ := hrw h hs
    exact g.mine h b (by rw [hH]; rfl) hb'
  have other : ∀ k, k ≠ d → ((st.move src d ob).H k).isSome = true → (st.H k).isSome = true ∧ src ≠ some k := by
    intro k hk hs
    simp only [St.move, upd_ne _ _ hk, dropH] at hs
    split at hs
    · cases hs
    · exact ⟨hs, by assumption⟩
  have alive_ne : ∀ k b, k ≠ d → ((st.move src d ob).H k).isSome = true → Blk (φ k) b → ¬ Blk fv b := by
    intro k b hk hs hb hf
    obtain ⟨hs', hne⟩ := other k hk hs
    obtain ⟨obk, hobk⟩ := Option.isSome_iff_exists.1 hs'
    rcases hblk b hf with h | ⟨h, he, hal, hb'⟩
    · have := blk_lt (g.own k _ hobk) hb; omega
    · have hkh : h ≠ k := fun e => hne (by rw [← e]; exact he)
      exact g.disj h k b hkh hal hs' hb' hb
  refine ⟨g.size, g.defers, g.below.grown hg hrow', fun k b hs hb => ?_, fun k hk hs => ?_, fun i k b hne h1 h2 hb => ?_, fun k obk hk => ?_, fun t => ?_⟩
  · by_cases ek : k = d
    · subst ek
      rw [upd_same] at hb
      rcases hblk b hb with h | ⟨h, -, hal, hb'⟩
      · exact .inr (Nat.le_trans g.below.size h)
      · exact g.mine h b hal hb'
    · rw [upd_ne _ _ ek] at hb
      exact g.mine k b (other k ek hs).1 hb
  · have ek : k ≠ d := by omega
    rw [upd_ne _ _ ek]
    exact g.keep k hk (other k ek hs).1
  · by_cases ei : i = d
    · subst ei
      have hk : k ≠ i := Ne.symm hne
      rw [upd_same] at hb
      rw [upd_ne _ _ hk]
      exact fun hb' => alive_ne k b hk h2 hb' hb
    · rw [upd_ne _ _ ei] at hb
      by_cases ek : k = d
      · subst ek
        rw [upd_same]
        exact alive_ne i b ei h1 hb
      · rw [upd_ne _ _ ek]
        exact g.disj i k b hne (other i ei h1).1 (other k ek h2).1 hb
  · by_cases ek : k = d
    · subst ek
      simp only [St.move, upd_same, Option.some.injEq] at hk
      subst hk
      rw [upd_same]
      exact hob
    · have hs : ((st.move src d ob).H k).isSome = true := by rw [hk]; rfl
      obtain ⟨hs', hne⟩ := other k ek hs
      have hk' : st.H k = some obk := by
        simp only [St.move, upd_ne _ _ ek, dropH, if_neg hne] at hk
        exact hk
      rw [upd_ne _ _ ek]
      have ho := g.own k obk hk'
      have hnb : ∀ b, row = some b → ¬ Blk (φ k) b := by
        intro b hb hbk
        obtain ⟨h, hs2, hb'⟩ := hrow b hb
        obtain ⟨ty, sz, es, hH⟩ := hrw h hs2
        have hkh : h ≠ k := fun e => hne (by rw [← e]; exact hs2)
        exact g.disj h k b hkh (by rw [hH]; rfl) hs' hb' hbk
      cases obk with
      | row ty sz es =>
        obtain ⟨xs, h1, h2, h3, h4⟩ := ho
        refine ⟨xs, h1.kept hg (fun b hb e => hnb b hb (.of e)), ?_, h3, h4⟩
        exact h2.mono (fun b hb hlt => move_ok g hblk hd b hb hlt) (fun b hb hlt => hg.block b hlt (fun e => by
          obtain ⟨h, hs, hb'⟩ := hrow b e.symm
          obtain ⟨ty, sz, es, hH⟩ := hrw h hs
          exact hb.2 h (by rw [hH]; rfl) hb'))
      | nest ty tyI szI rows =>
        exact nest_kept ho hg hnb (fun b hb hlt => move_ok g hblk hd b hb hlt) (fun b hb hlt => hg.block b hlt (fun e => by
          obtain ⟨h, hs, hb'⟩ := hrow b e.symm
          obtain ⟨ty, sz, es, hH⟩ := hrw h hs
          exact hb.2 h (by rw [hH]; rfl) hb'))
      | box ty cs =>
        obtain ⟨gb, arr, h1, h3, h4, h5⟩ := ho
        refine ⟨gb, arr, h1, ?_, h4, h5.1, fun i x v hx hv => ?_⟩
        · rw [hg.block gb (lt_of_heap h3) (fun e => hnb gb e.symm (by rw [h1]; rfl))]
          exact h3
        · exact move_rep g hno hrw hd hg hrow hblk (fun h hs => (hno h hs).2 k ty cs hk' x (List.mem_of_getElem? hx)) (h5.2 i x v hx hv)
  · exact move_rep g hno hrw hd hg hrow hblk (fun h hs => (hno h hs).1 t) (g.rep t)
end move
theorem GamW.write (g : GamW C st φ a w) {h : Nat} {ob ob' : OB} (hH : st.H h = some ob) {w' : World}
    (hshape : (∃ ty cs cs', ob = .box ty cs ∧ ob' = .box ty cs') ∨ (∃ ty sz es es', ob = .row ty sz es ∧ ob' = .row ty sz es' ∧ es.length = es'.length))
    (hg : w.grownBy w' (blkOf (φ h)))
    (hob : (∀ v x, RepV φ st.H w (okG C φ st.H) v x → RepV φ (upd st.H h (some ob')) w' (okG C φ st.H) v x) → OwnOb φ (upd st.H h (some ob')) w' (okG C φ st.H) (φ h) ob') :
    GamW C { st with H := upd st.H h (some ob') } φ a w' := by
  have hsome : ∀ k, ((upd st.H h (some ob')) k).isSome = (st.H k).isSome := by
    intro k
    by_cases e : k = h
    · subst e; rw [upd_same, hH]; rfl
    · rw [upd_ne _ _ e]
  have hok : okG C φ (upd st.H h (some ob')) = okG C φ st.H := by funext b; simp only [okG, hsome]
  have hnb : ∀ b, okG C φ st.H b → b < w.heap.size → w'.heap[b]? = w.heap[b]? := fun b hb hlt => hg.block b hlt (fun e => hb.2 h (by rw [hH]; rfl) (.of e.symm))
  have tr : ∀ v x, RepV φ st.H w (okG C φ st.H) v x → RepV φ (upd st.H h (some ob')) w' (okG C φ st.H) v x := by
    intro v x hr
    have hbx : ∀ k ty cs, st.H k = some (.box ty cs) → ∃ cs', upd st.H h (some ob') k = some (.box ty cs') := by
      intro k ty cs hk
      by_cases e : k = h
      · subst e
        rw [hk] at hH; cases hH
        rw [upd_same]
        rcases hshape with ⟨ty', c1, c2, e1, e2⟩ | ⟨_, _, _, _, e1, _⟩
        · cases e1; exact ⟨c2, by rw [e2]⟩
        · cases e1
      · rw [upd_ne _ _ e]; exact ⟨cs, hk⟩
    have hns : ∀ k ty tyI szI rows, st.H k = some (.nest ty tyI szI rows) → upd st.H h (some ob') k = some (.nest ty tyI szI rows) := by
      intro k ty tyI szI rows hk
      by_cases e : k = h
      · subst e
        rw [hk] at hH; cases hH
        rcases hshape with ⟨_, _, _, e1, _⟩ | ⟨_, _, _, _, e1, _⟩ <;> cases e1
      · rw [upd_ne _ _ e]; exact hk
    have hrw : ∀ k ty sz es, st.H k = some (.row ty sz es) → ∃ es', upd st.H h (some ob') k = some (.row ty sz es') ∧ es.length = es'.length := by
      intro k ty sz es hk
      by_cases e : k = h
      · subst e
        rw [hk] at hH; cases hH
        rw [upd_same]
        rcases hshape with ⟨_, _, _, e1, _⟩ | ⟨_, _, _, es', e1, e2, e3⟩
        · cases e1
        · cases e1; exact ⟨es', by rw [e2], e3⟩
      · rw [upd_ne _ _ e]; exact ⟨es, hk, rfl⟩
    refine RepV.lift1 (p := fun _ => True) (fun _ _ _ _ => trivial) (fun _ _ _ _ => trivial) (fun v x hl _ hr => ?_) trivial hr
    cases v with
    | agg => simp [leafV] at hl
    | tup => simp [leafV] at hl
    | ptr k o =>
      obtain ⟨ty, cs, gb, hk, r⟩ := hr
      obtain ⟨cs', hk'⟩ := hbx k ty cs hk
      exact ⟨ty, cs', gb, hk', r⟩
    | eptr k i o =>
      obtain ⟨ty, sz, es, gb, m, c, hk, r1, r2, r3⟩ := hr
      obtain ⟨es', hk', hl⟩ := hrw k ty sz es hk
      exact ⟨ty, sz, es', gb, m, c, hk', r1, by omega, r3⟩
    | own k n =>
      obtain ⟨ty, sz, es, A, m, c, hk, r1, r2, r3⟩ := hr
      obtain ⟨es', hk', hl⟩ := hrw k ty sz es hk
      exact ⟨ty, sz, es', A, m, c, hk', r1, by omega, r3⟩
    | osl k i n =>
      obtain ⟨ty, sz, es, A, m, c, A', c', hk, r1, r2, r3⟩ := hr
      obtain ⟨es', hk', hl⟩ := hrw k ty sz es hk
      exact ⟨ty, sz, es', A, m, c, A', c', hk', r1, by omega, r3⟩
    | nst k n =>
      obtain ⟨ty, tyI, szI, rows, fs, hk, r⟩ := hr
      exact ⟨ty, tyI, szI, rows, fs, hns _ _ _ _ _ hk, r⟩
    | nptr k i =>
      obtain ⟨ty, tyI, szI, rows, gb, m, c, fs, hk, r⟩ := hr
      exact ⟨ty, tyI, szI, rows, gb, m, c, fs, hns _ _ _ _ _ hk, r⟩
    | inr k i =>
      obtain ⟨ty, tyI, szI, rows, fo, fs, hk, r⟩ := hr
      exact ⟨ty, tyI, szI, rows, fo, fs, hns _ _ _ _ _ hk, r⟩
    | clo f hs =>
      obtain ⟨e, hall⟩ := hr
      refine ⟨e, fun k hk => ?_⟩
      obtain ⟨ty, cs, hk'⟩ := hall k hk
      obtain ⟨cs', hk2⟩ := hbx k ty cs hk'
      exact ⟨ty, cs', hk2⟩
    | junk => trivial
    | _ => exact Rep.mono (fun b hb _ => hb) hnb hr
  refine ⟨g.size, g.defers, ?_, fun k b h1 => g.mine k b (by rw [← hsome]; exact h1), fun k hk h1 => g.keep k hk (by rw [← hsome]; exact h1), fun i k b hne h1 h2 => g.disj i k b hne (by rw [← hsome]; exact h1) (by rw [← hsome]; exact h2), fun k obk hk => ?_, fun t => by rw [hok]; exact tr _ _ (g.rep t)⟩
  · exact g.below.grown hg fun b hb => g.mine h b (by rw [hH]; rfl) (.of hb)
  · rw [hok]
    by_cases e : k = h
    · subst e
      simp only [upd_same, Option.some.injEq] at hk
      subst hk
      exact hob tr
    · simp only [upd_ne _ _ e] at hk
      have ho := g.own k obk hk
      have hnk : ∀ b, blkOf (φ h) = some b → ¬ Blk (φ k) b := fun b hb => g.disj h k b (Ne.symm e) (by rw [hH]; rfl) (by rw [hk]; rfl) (.of hb)
      cases obk with
      | row ty sz es =>
        obtain ⟨xs, h1, h2, h3, h4⟩ := ho
        exact ⟨xs, h1.kept hg (fun b hb e => hnk b hb (.of e)), h2.mono (fun b hb _ => hb) hnb, h3, h4⟩
      | nest ty tyI szI rows => exact nest_kept ho hg hnk (fun b hb _ => hb) hnb
      | box ty cs =>
        obtain ⟨gb, arr, h1, h3, h4, h5⟩ := ho
        refine ⟨gb, arr, h1, ?_, h4, h5.1, fun i x v hx hv => tr _ _ (h5.2 i x v hx hv)⟩
        rw [hg.block gb (lt_of_heap h3) (fun e' => hnk gb e'.symm (by rw [h1]; rfl))]
        exact h3
end
end Go.Proofs.Ytdnndlalflahhaa.Ev
