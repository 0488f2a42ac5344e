/- Several texts in one: contracts of functions of the program, and what they lean on. In part written by a program of this session over the kit's print, in part by hand. -/
import Derived.Test.YtoedpbjeangdhaaDoorYParseDeep4
import Derived.Test.YtoedpbjeangdhaaDoorYParseDeep11
import Derived.Test.YtoedpbjeangdhaaDoorYParseDeep0
namespace Go.Ev
open Go
set_option linter.unusedVariables false
set_option linter.unusedSimpArgs false
noncomputable def blksV : Nat → List (Nat × List V) → T Blk
  | _, [] => .nil
  | i, (el, cs) :: r => (blksV (i + 1) r).set i (.cells ⟨i, cs.length, 0, el, 0, true, true, putL .nil 0 cs⟩)
noncomputable def famsV : Nat → List (Nat × List V) → T (List Nat)
  | _, [] => .nil
  | i, _ :: r => (famsV (i + 1) r).set i [i]
noncomputable def viewM (G : List (Nat × Nat × V)) (bs : List (Nat × List V)) : Mem := ⟨glL G, bs.length, blksV 0 bs, famsV 0 bs⟩
theorem blksV_get : ∀ (bs : List (Nat × List V)) (i b : Nat), (blksV i bs).get b = if i ≤ b then (bs[b - i]?).map (fun x => Blk.cells ⟨b, x.2.length, 0, x.1, 0, true, true, putL .nil 0 x.2⟩) else none := by
  intro bs
  induction bs with
  | nil => intro i b; simp [blksV, T.get_nil]
  | cons x r ih =>
    intro i b
    obtain ⟨el, cs⟩ := x
    simp only [blksV]
    rw [T.get_set, ih]
    by_cases hb : b = i
    · subst hb; simp
    · rw [if_neg hb]
      by_cases h1 : i + 1 ≤ b
      · rw [if_pos h1, if_pos (by omega)]
        congr 1
        obtain ⟨k, rfl⟩ : ∃ k, b = i + 1 + k := ⟨b - (i + 1), by omega⟩
        rw [show i + 1 + k - (i + 1) = k by omega, show i + 1 + k - i = k + 1 by omega]
        rfl
      · rw [if_neg h1, if_neg (by omega)]
theorem famsV_get : ∀ (bs : List (Nat × List V)) (i b : Nat), (famsV i bs).get b = if i ≤ b ∧ b - i < bs.length then some [b] else none := by
  intro bs
  induction bs with
  | nil => intro i b; simp [famsV, T.get_nil]
  | cons x r ih =>
    intro i b
    simp only [famsV]
    rw [T.get_set, ih]
    by_cases hb : b = i
    · subst hb; simp
    · rw [if_neg hb]
      by_cases h1 : i + 1 ≤ b ∧ b - (i + 1) < r.length
      · rw [if_pos h1, if_pos ⟨by omega, by simp; omega⟩]
      · rw [if_neg h1, if_neg (fun h => h1 ⟨by omega, by have := h.2; simp at this; omega⟩)]
theorem MR.view {G : List (Nat × Nat × V)} {bs : List (Nat × List V)} {w : World} (hG : ∀ g i v, glL G g i = some v → ∃ x, w.cell? ⟨g, i, none⟩ = some x ∧ Rel zeroS v x) (f : Nat → Option (Nat × Nat × Nat)) (hdom : ∀ b x, f b = some x → b < bs.length)
    (hcell : ∀ b x y, bs[b]? = some x → f b = some y → ∀ i v, x.2[i]? = some v → ∃ u, w.cell? ⟨y.1, y.2.1 + i, none⟩ = some u ∧ Rel ⟨f, 0⟩ v u) (hrng : ∀ b x, f b = some x → x.1 < w.heap.size) : MR w.heap.size (viewM G bs) ⟨f, 0⟩ w where
  lt := Nat.le_refl _
  dom := hdom
  bl b k cb o tt h hs := by
    have h1 := h.1
    show CellOk _ _ _ _ _ _ _
    unfold viewM at h1
    dsimp only at h1
    rw [blksV_get, if_pos (Nat.zero_le _), Nat.sub_zero] at h1
    cases hb : bs[b]? with
    | none => rw [hb] at h1; cases h1
    | some x =>
      rw [hb] at h1
      simp only [Option.map_some, Option.some.injEq, Blk.cells.injEq] at h1
      subst h1
      refine ⟨fun i v hi hv => ?_, fun h => by cases h⟩
      dsimp only at hi hv
      rw [putL_get, if_pos (by omega), Nat.sub_zero] at hv
      exact hcell b x _ hb hs i v hv
  mp r es h := by
    unfold viewM at h
    dsimp only at h
    rw [blksV_get, if_pos (Nat.zero_le _)] at h
    cases hb : bs[r - 0]? <;> rw [hb] at h <;> simp at h
  mps r r' es es' _ h := by
    unfold viewM at h
    dsimp only at h
    rw [blksV_get, if_pos (Nat.zero_le _)] at h
    cases hb : bs[r - 0]? <;> rw [hb] at h <;> simp at h
  fam b k h := by
    have h1 := h.1
    unfold viewM at h1
    dsimp only at h1
    rw [blksV_get, if_pos (Nat.zero_le _), Nat.sub_zero] at h1
    cases hb : bs[b]? with
    | none => rw [hb] at h1; cases h1
    | some x =>
      rw [hb] at h1
      simp only [Option.map_some, Option.some.injEq, Blk.cells.injEq] at h1
      subst h1
      have := (List.getElem?_eq_some_iff.1 hb).1
      refine ⟨[b], ?_, by simp⟩
      unfold viewM
      dsimp only
      rw [famsV_get, if_pos ⟨Nat.zero_le _, by omega⟩]
  chain f' ch h := by
    unfold viewM at h
    dsimp only at h
    rw [famsV_get] at h
    split at h
    · rename_i hc
      cases h
      have hlt : f' < bs.length := by omega
      refine ⟨by simp, fun b hb => ?_, by simp⟩
      simp at hb
      subst hb
      refine ⟨⟨b, (bs[b]).2.length, 0, (bs[b]).1, 0, true, true, putL .nil 0 (bs[b]).2⟩, ⟨?_, rfl⟩, rfl⟩
      unfold viewM
      dsimp only
      rw [blksV_get, if_pos (Nat.zero_le _), Nat.sub_zero, List.getElem?_eq_getElem hlt]
      rfl
    · cases h
  sep b b' k k' cb o o' tt tt' _ h h' _ _ := by
    refine .inl ⟨?_, ?_⟩
    · have h1 := h.1
      unfold viewM at h1
      dsimp only at h1
      rw [blksV_get, if_pos (Nat.zero_le _)] at h1
      cases hb : bs[b - 0]? with
      | none => rw [hb] at h1; cases h1
      | some x => rw [hb] at h1; simp only [Option.map_some, Option.some.injEq, Blk.cells.injEq] at h1; subst h1; rfl
    · have h1 := h'.1
      unfold viewM at h1
      dsimp only at h1
      rw [blksV_get, if_pos (Nat.zero_le _)] at h1
      cases hb : bs[b' - 0]? with
      | none => rw [hb] at h1; cases h1
      | some x => rw [hb] at h1; simp only [Option.map_some, Option.some.injEq, Blk.cells.injEq] at h1; subst h1; rfl
  new b hb := by
    have hb' : bs.length ≤ b := hb
    unfold viewM
    dsimp only
    rw [blksV_get, famsV_get, if_pos (Nat.zero_le _), if_neg (by omega), Nat.sub_zero, List.getElem?_eq_none hb']
    exact ⟨rfl, rfl⟩
  gl g i v h := by
    obtain ⟨x, h1, h2⟩ := hG g i v h
    refine ⟨?_, x, h1, h2⟩
    refine Classical.byContradiction fun hn => ?_
    have : w.heap[g]? = none := Array.getElem?_eq_none (by omega)
    simp [World.cell?, this] at h1
  rng := hrng
  nle := Nat.zero_le _
theorem view_ok {p : Program} {cf E : CallF} (hcf : CFok p cf) {G : List (Nat × Nat × V)} (hE : ∀ f args m v m', E f args m = some (v, m') → m' = m ∧ v.shut = true ∧ glOk G m = true ∧ ∃ bs args0 mr, cf f args0 (viewM G bs) = some (v, mr) ∧
    ∀ base σ w (us : Array Value), MR base m σ w → RelL σ args us.toList → ∃ g : Nat → Option (Nat × Nat × Nat), (∀ b x, g b = some x → b < bs.length) ∧ (∀ b x y, bs[b]? = some x → g b = some y → ∀ i v, x.2[i]? = some v → ∃ u, w.cell? ⟨y.1, y.2.1 + i, none⟩ = some u ∧ Rel ⟨g, 0⟩ v u) ∧ (∀ b x, g b = some x → x.1 < w.heap.size) ∧ RelL ⟨g, 0⟩ args0 us.toList) : CFok p E := by
  intro f args m v m' h base σ w us hM hr
  obtain ⟨rfl, hsh, hg, bs, args0, mr, h1, h2⟩ := hE f args m v m' h
  obtain ⟨g, d1, d2, d3, d4⟩ := h2 base σ w us hM hr
  have hV : MR w.heap.size (viewM G bs) ⟨g, 0⟩ w := MR.view (fun g i u hu => by
    have hmem := glL_mem hu
    unfold glOk at hg
    have := List.all_eq_true.1 hg _ hmem
    dsimp only at this
    split at this
    · rename_i u' hu'
      have := V.beq_eq _ _ this
      subst this
      exact (hM.gl g i u' hu').2
    · cases this) g d1 d2 d3
  refine (hcf f args0 _ v mr h1 w.heap.size _ w us hV d4).mono fun e w' he => ?_
  obtain ⟨x, σ', rfl, hR, hM', hT⟩ := he
  have hkeep : ∀ i, i < w.heap.size → w'.heap[i]? = w.heap[i]? := fun i hi => hT.keep i hi (.inl hi)
  exact ⟨x, σ, rfl, hR.shut hsh, hM.stay hT.size hkeep, ⟨σ.le_refl, fun b x h => .inl ⟨b, x, h, rfl⟩, hT.os, hT.tape, hT.output, hT.size, fun c hc _ => hkeep c hc, fun _ _ h => .inl h, rfl⟩⟩
noncomputable def extTold (G : List (Nat × Nat × V)) (told faultP errT wantP : Nat) : CallF := fun f args m => bif Nat.beq f told && glOk G m then (match args with
  | [.iface t (.ptr b 0)] => bif Nat.beq t faultP then (match m.cell b 0, m.cell b 1 with
    | some (.int .i64 a), some (.iface t1 (.int .i64 c)) => bif Nat.beq t1 errT then some (.tup [.int .i64 a, .int .i64 c], m) else none
    | some (.int .i64 a), some (.iface t1 (.ptr wb 0)) => bif Nat.beq t1 wantP then (match m.cell wb 0 with
      | some (.str l s) => some (.tup [.int .i64 a, .int .i64 403], m)
      | _ => none) else none
    | _, _ => none) else none
  | _ => none) else none
theorem cell_rel {base : Nat} {m : Mem} {σ : Sg} {w : World} (hM : MR base m σ w) {b i : Nat} {v : V} (h : m.cell b i = some v) {cb o tt : Nat} (hs : σ b = some (cb, o, tt)) : ∃ u, w.cell? ⟨cb, o + i, none⟩ = some u ∧ Rel σ v u := by
  unfold Mem.cell at h
  split at h
  · rename_i k hk
    simp only [bif_some, Nat.blt_eq] at h
    exact (hM.bl b k cb o tt ⟨hk, h.1⟩ hs).cell i v h.2.1 h.2.2
  · cases h
theorem extTold_ok {p : Program} {cf : CallF} (hcf : CFok p cf) {G : List (Nat × Nat × V)} {told faultP errT wantP faultT wantT : Nat} (h1 : ∀ a c, ∃ mr, cf told [.iface faultP (.ptr 0 0)] (viewM G [(faultT, [.int .i64 a, .iface errT (.int .i64 c)])]) = some (.tup [.int .i64 a, .int .i64 c], mr))
    (h2 : ∀ a l s, ∃ mr, cf told [.iface faultP (.ptr 0 0)] (viewM G [(faultT, [.int .i64 a, .iface wantP (.ptr 1 0)]), (wantT, [.str l s])]) = some (.tup [.int .i64 a, .int .i64 403], mr)) : CFok p (extTold G told faultP errT wantP) := by
  refine view_ok hcf (G := G) fun f args m v m' h => ?_
  unfold extTold at h
  simp only [bif_some, Bool.and_eq_true, Nat.beq_eq] at h
  obtain ⟨⟨rfl, hg⟩, h⟩ := h
  split at h
  case h_2 => cases h
  rename_i t b
  simp only [bif_some, Nat.beq_eq] at h
  obtain ⟨rfl, h⟩ := h
  split at h
  · rename_i a t1 c c0 c1
    simp only [bif_some, Nat.beq_eq, Option.some.injEq, Prod.mk.injEq] at h
    obtain ⟨rfl, rfl, rfl⟩ := h
    obtain ⟨mr, hmr⟩ := h1 a c
    refine ⟨rfl, rfl, hg, _, _, mr, hmr, fun base σ w us hM hr => ?_⟩
    obtain ⟨x, hx, hr1⟩ := hr.one
    cases hr1 with
    | iface t hp =>
    cases hp with
    | @ptr _ cb o tt _ hs =>
    obtain ⟨u0, e0, r0⟩ := cell_rel hM c0 hs
    obtain ⟨u1, e1, r1⟩ := cell_rel hM c1 hs
    refine ⟨fun q => if q = 0 then some (cb, o, tt) else none, fun q x hq => ?_, fun q x y hx hy i v hv => ?_, fun q x hq => ?_, ?_⟩
    · dsimp only at hq
      split at hq
      · simp; omega
      · cases hq
    · dsimp only at hy
      split at hy
      · rename_i hq
        subst hq
        cases hy
        simp at hx
        subst hx
        match i, hv with
        | 0, hv => simp at hv; subst hv; exact ⟨u0, e0, r0.shut rfl⟩
        | 1, hv => simp at hv; subst hv; exact ⟨u1, e1, r1.shut rfl⟩
      · cases hy
    · dsimp only at hq
      split at hq
      · cases hq; exact hM.rng b _ hs
      · cases hq
    · rw [hx]; exact .cons (.iface _ (.ptr 0 rfl)) (.nil _)
  · rename_i a t1 wb c0 c1
    simp only [bif_some, Nat.beq_eq] at h
    obtain ⟨rfl, h⟩ := h
    split at h
    case h_2 => cases h
    rename_i l s c2
    simp only [Option.some.injEq, Prod.mk.injEq] at h
    obtain ⟨rfl, rfl⟩ := h
    obtain ⟨mr, hmr⟩ := h2 a l s
    refine ⟨rfl, rfl, hg, _, _, mr, hmr, fun base σ w us hM hr => ?_⟩
    obtain ⟨x, hx, hr1⟩ := hr.one
    cases hr1 with
    | iface t hp =>
    cases hp with
    | @ptr _ cb o tt _ hs =>
    obtain ⟨u0, e0, r0⟩ := cell_rel hM c0 hs
    obtain ⟨u1, e1, r1⟩ := cell_rel hM c1 hs
    cases r1 with
    | iface _ r1 =>
    cases r1 with
    | @ptr _ cb2 o2 tt2 _ hs2 =>
    obtain ⟨u2, e2, r2⟩ := cell_rel hM c2 hs2
    refine ⟨fun q => if q = 0 then some (cb, o, tt) else if q = 1 then some (cb2, o2, tt2) else none, fun q x hq => ?_, fun q x y hx hy i v hv => ?_, fun q x hq => ?_, ?_⟩
    · dsimp only at hq
      split at hq
      · simp; omega
      · split at hq
        · simp; omega
        · cases hq
    · dsimp only at hy
      split at hy
      · rename_i hq
        subst hq
        cases hy
        simp at hx
        subst hx
        match i, hv with
        | 0, hv => simp at hv; subst hv; exact ⟨u0, e0, r0.shut rfl⟩
        | 1, hv => simp at hv; subst hv; exact ⟨_, e1, .iface _ (.ptr (o := o2) (tt := tt2) 0 rfl)⟩
      · split at hy
        · rename_i hq
          subst hq
          cases hy
          simp at hx
          subst hx
          match i, hv with
          | 0, hv => simp at hv; subst hv; exact ⟨u2, e2, r2.shut rfl⟩
        · cases hy
    · dsimp only at hq
      split at hq
      · cases hq; exact hM.rng b _ hs
      · split at hq
        · cases hq; exact hM.rng wb _ hs2
        · cases hq
    · rw [hx]; exact .cons (.iface _ (.ptr 0 rfl)) (.nil _)
  · cases h
end Go.Ev
namespace Go.Ev
open Go
theorem told_of {p : Program} {xb : XB} {ext : CallF} {n : Nat} {f : FuncId} {args : List V} {m m0 : Mem} {u : V} (h : (funC p xb ext n f args m fun v _ => some (v, m0)) = some (u, m0)) : ∃ m', funV p xb ext n f args m = some (u, m') := by
  rw [funC_eq] at h
  cases hf : funV p xb ext n f args m with
  | none => rw [hf] at h; cases h
  | some r =>
    rw [hf] at h
    obtain ⟨v, m'⟩ := r
    have : v = u := (Prod.mk.inj (Option.some.inj h)).1
    subst this
    exact ⟨m', rfl⟩
theorem extTwo_none {a b : CallF} {f : FuncId} {args : List V} {m : Mem} (h1 : a f args m = none) (h2 : b f args m = none) : extTwo a b f args m = none := by
  unfold extTwo; rw [h1]; exact h2
theorem extTwo_right {a b : CallF} {f : FuncId} {args : List V} {m : Mem} {r : Option (V × Mem)} (h1 : a f args m = none) (h2 : b f args m = r) : extTwo a b f args m = r := by
  unfold extTwo; rw [h1]; exact h2
theorem extTwo_left {a b : CallF} {f : FuncId} {args : List V} {m : Mem} {r : V × Mem} (h1 : a f args m = some r) : extTwo a b f args m = some r := by
  unfold extTwo; rw [h1]
theorem beqF {a b : Nat} (h : a ≠ b) : Nat.beq a b = false := by rw [← Bool.not_eq_true, Nat.beq_eq]; exact h
theorem extIdx_none {i g f : Nat} {args : List V} {m : Mem} (h : f ≠ i) : extIdx i g f args m = none := by
  unfold extIdx; rw [beqF h]; rfl
theorem extTold_none {G : List (Nat × Nat × V)} {t a b c f : Nat} {args : List V} {m : Mem} (h : f ≠ t) : extTold G t a b c f args m = none := by
  unfold extTold; rw [beqF h]; rfl
theorem extL_none {G : List (Nat × Nat × V)} {f : Nat} {args : List V} {m : Mem} : ∀ {L : List (Nat × List V × V)}, (∀ x, x ∈ L → x.1 ≠ f) → extL G L f args m = none := by
  intro L
  induction L with
  | nil => intro _; rfl
  | cons x L ih =>
    intro h
    obtain ⟨a, b, c⟩ := x
    simp only [extL]
    rw [beqF (h (a, b, c) (by simp))]
    exact ih fun y hy => h y (by simp [hy])
theorem extS_none {G : List (Nat × Nat × V)} {f : Nat} {args : List V} {m : Mem} : ∀ {L : List (Nat × List V × Sl)}, (∀ x, x ∈ L → x.1 ≠ f) → extS G L f args m = none := by
  intro L
  induction L with
  | nil => intro _; rfl
  | cons x L ih =>
    intro h
    obtain ⟨a, b, c⟩ := x
    simp only [extS]
    rw [beqF (h (a, b, c) (by simp))]
    exact ih fun y hy => h y (by simp [hy])
theorem extIdx_eval {i g : Nat} {la a lb b : Nat} {m : Mem} (hg : m.gl g 0 = some (.res .i64 1 0)) (hl : la < 4294967281) : extIdx i g i [.str la a, .str lb b] m = some (.int .i64 (findSub a la b lb (la + 1) 0), m) := by
  unfold extIdx
  rw [Nat.beq_refl, cond_true, hg]
  show (bif Nat.blt la 4294967281 then some (V.int .i64 (findSub a la b lb (la + 1) 0), m) else none) = _
  rw [show Nat.blt la 4294967281 = true by rw [Nat.blt_eq]; exact hl]
  rfl
end Go.Ev

namespace Go.Proofs.YtoedpbjeangdhaaDoor.Ev
open Go Go.Ev
set_option linter.unusedVariables false
set_option linter.unusedSimpArgs false
theorem con_0_0 : ∃ m', funV Tryd.prog xb ext1 100000 60 [.str 6 35442611010848, .str 3 2108192] (memOf vars) = some (.bool false, m') := told_of (m0 := memOf vars) (by kernel_rfl)
theorem con_0_1 : ∃ m', funV Tryd.prog xb ext1 100000 60 [.str 6 35442611010848, .str 3 2108704] (memOf vars) = some (.bool false, m') := told_of (m0 := memOf vars) (by kernel_rfl)
theorem con_0_2 : ∃ m', funV Tryd.prog xb ext1 100000 60 [.str 6 35442611010848, .str 3 2107936] (memOf vars) = some (.bool false, m') := told_of (m0 := memOf vars) (by kernel_rfl)
theorem con_0_3 : ∃ m', funV Tryd.prog xb ext1 100000 60 [.str 6 35442611010848, .str 3 2109216] (memOf vars) = some (.bool false, m') := told_of (m0 := memOf vars) (by kernel_rfl)
theorem con_0_4 : ∃ m', funV Tryd.prog xb ext1 100000 60 [.str 6 35442611010848, .str 4 540884256] (memOf vars) = some (.bool true, m') := told_of (m0 := memOf vars) (by kernel_rfl)
theorem con_0_5 : ∃ m', funV Tryd.prog xb ext1 100000 60 [.str 6 35442611010848, .str 3 2112544] (memOf vars) = some (.bool true, m') := told_of (m0 := memOf vars) (by kernel_rfl)
theorem con_1_0 : ∃ m', funV Tryd.prog xb ext1 100000 60 [.str 5 138196036384, .str 3 2108192] (memOf vars) = some (.bool true, m') := told_of (m0 := memOf vars) (by kernel_rfl)
theorem con_1_1 : ∃ m', funV Tryd.prog xb ext1 100000 60 [.str 5 138196036384, .str 3 2108704] (memOf vars) = some (.bool true, m') := told_of (m0 := memOf vars) (by kernel_rfl)
theorem con_1_2 : ∃ m', funV Tryd.prog xb ext1 100000 60 [.str 5 138196036384, .str 3 2107936] (memOf vars) = some (.bool false, m') := told_of (m0 := memOf vars) (by kernel_rfl)
theorem con_1_3 : ∃ m', funV Tryd.prog xb ext1 100000 60 [.str 5 138196036384, .str 3 2109216] (memOf vars) = some (.bool false, m') := told_of (m0 := memOf vars) (by kernel_rfl)
theorem con_1_4 : ∃ m', funV Tryd.prog xb ext1 100000 60 [.str 5 138196036384, .str 4 540884256] (memOf vars) = some (.bool false, m') := told_of (m0 := memOf vars) (by kernel_rfl)
theorem con_1_5 : ∃ m', funV Tryd.prog xb ext1 100000 60 [.str 5 138196036384, .str 3 2112544] (memOf vars) = some (.bool false, m') := told_of (m0 := memOf vars) (by kernel_rfl)
theorem con_2_0 : ∃ m', funV Tryd.prog xb ext1 100000 60 [.str 5 138229590560, .str 3 2108192] (memOf vars) = some (.bool false, m') := told_of (m0 := memOf vars) (by kernel_rfl)
theorem con_2_1 : ∃ m', funV Tryd.prog xb ext1 100000 60 [.str 5 138229590560, .str 3 2108704] (memOf vars) = some (.bool false, m') := told_of (m0 := memOf vars) (by kernel_rfl)
theorem con_2_2 : ∃ m', funV Tryd.prog xb ext1 100000 60 [.str 5 138229590560, .str 3 2107936] (memOf vars) = some (.bool true, m') := told_of (m0 := memOf vars) (by kernel_rfl)
theorem con_2_3 : ∃ m', funV Tryd.prog xb ext1 100000 60 [.str 5 138229590560, .str 3 2109216] (memOf vars) = some (.bool true, m') := told_of (m0 := memOf vars) (by kernel_rfl)
theorem con_2_4 : ∃ m', funV Tryd.prog xb ext1 100000 60 [.str 5 138229590560, .str 4 540884256] (memOf vars) = some (.bool false, m') := told_of (m0 := memOf vars) (by kernel_rfl)
theorem con_2_5 : ∃ m', funV Tryd.prog xb ext1 100000 60 [.str 5 138229590560, .str 3 2112544] (memOf vars) = some (.bool false, m') := told_of (m0 := memOf vars) (by kernel_rfl)
theorem told_nil : ∃ m', funV Tryd.prog xb ext1 100000 16 [.nili] (memOf vars) = some (.tup [.int .i64 0, .int .i64 0], m') := told_of (m0 := memOf vars) (by kernel_rfl)
theorem told_err (a c : Int) : ∃ m', funV Tryd.prog xb ext1 100000 16 [.iface 63 (.ptr 0 0)] (viewM vars [(65, [.int .i64 a, .iface 27 (.int .i64 c)])]) = some (.tup [.int .i64 a, .int .i64 c], m') := told_of (m0 := memOf vars) (by kernel_rfl)
theorem told_want (a : Int) (l s : Nat) : ∃ m', funV Tryd.prog xb ext1 100000 16 [.iface 63 (.ptr 0 0)] (viewM vars [(65, [.int .i64 a, .iface 52 (.ptr 1 0)]), (54, [.str l s])]) = some (.tup [.int .i64 a, .int .i64 403], m') := told_of (m0 := memOf vars) (by kernel_rfl)
theorem awake_par : yes (funC Tryd.prog xb ext1 100000 5 [] (memOf vars) fun v m => some (v, m)) = true := by kernel_rfl
def told3 : List (Nat × List V × V) := [(60, [.str 6 35442611010848, .str 3 2108192], .bool false), (60, [.str 6 35442611010848, .str 3 2108704], .bool false), (60, [.str 6 35442611010848, .str 3 2107936], .bool false), (60, [.str 6 35442611010848, .str 3 2109216], .bool false), (60, [.str 6 35442611010848, .str 4 540884256], .bool true), (60, [.str 6 35442611010848, .str 3 2112544], .bool true), (60, [.str 5 138196036384, .str 3 2108192], .bool true), (60, [.str 5 138196036384, .str 3 2108704], .bool true), (60, [.str 5 138196036384, .str 3 2107936], .bool false), (60, [.str 5 138196036384, .str 3 2109216], .bool false), (60, [.str 5 138196036384, .str 4 540884256], .bool false), (60, [.str 5 138196036384, .str 3 2112544], .bool false), (60, [.str 5 138229590560, .str 3 2108192], .bool false), (60, [.str 5 138229590560, .str 3 2108704], .bool false), (60, [.str 5 138229590560, .str 3 2107936], .bool true), (60, [.str 5 138229590560, .str 3 2109216], .bool true), (60, [.str 5 138229590560, .str 4 540884256], .bool false), (60, [.str 5 138229590560, .str 3 2112544], .bool false), (16, [.nili], .tup [.int .i64 0, .int .i64 0]), (5, [], .bool true)]
noncomputable def extT : CallF := extTold vars 16 63 27 52
noncomputable def extP : CallF := extTwo extT (extTwo ext1 (extL vars told3))
theorem extPOk : CFok Tryd.prog extP := extTwo_ok (extTold_ok (ok _ ext1Ok 100000) told_err told_want) <| extTwo_ok ext1Ok <| extL_ok (ok _ ext1Ok 100000) fun x hx => by
  simp only [told3, List.mem_cons, List.not_mem_nil, or_false] at hx
  rcases hx with rfl | rfl | rfl | rfl | rfl | rfl | rfl | rfl | rfl | rfl | rfl | rfl | rfl | rfl | rfl | rfl | rfl | rfl | rfl | rfl
  · exact ⟨rfl, rfl, con_0_0⟩
  · exact ⟨rfl, rfl, con_0_1⟩
  · exact ⟨rfl, rfl, con_0_2⟩
  · exact ⟨rfl, rfl, con_0_3⟩
  · exact ⟨rfl, rfl, con_0_4⟩
  · exact ⟨rfl, rfl, con_0_5⟩
  · exact ⟨rfl, rfl, con_1_0⟩
  · exact ⟨rfl, rfl, con_1_1⟩
  · exact ⟨rfl, rfl, con_1_2⟩
  · exact ⟨rfl, rfl, con_1_3⟩
  · exact ⟨rfl, rfl, con_1_4⟩
  · exact ⟨rfl, rfl, con_1_5⟩
  · exact ⟨rfl, rfl, con_2_0⟩
  · exact ⟨rfl, rfl, con_2_1⟩
  · exact ⟨rfl, rfl, con_2_2⟩
  · exact ⟨rfl, rfl, con_2_3⟩
  · exact ⟨rfl, rfl, con_2_4⟩
  · exact ⟨rfl, rfl, con_2_5⟩
  · exact ⟨rfl, rfl, told_nil⟩
  · exact ⟨rfl, rfl, yes_spec (yes_of awake_par)⟩
theorem goodOk {m : Mem} (h : Sy.Good m.gl) : glOk vars m = true := by
  obtain ⟨g, a, b, c⟩ := m
  have h : g = glL Sy.syVars := h
  subst h
  exact (by kernel_rfl : glOk vars ⟨glL Sy.syVars, a, b, c⟩ = true)
theorem no_ext : ∀ (f : Nat) (a : List V) (m : Mem), f ∉ Sy.XS → extP f a m = none := fun f a m h => by
  simp only [Sy.XS, List.mem_cons, List.not_mem_nil, or_false, not_or] at h
  refine extTwo_none (extTold_none (by omega)) (extTwo_none ?_ (extL_none fun x hx => ?_))
  · refine extTwo_none (extIdx_none (by omega)) (extS_none fun x hx => ?_)
    simp only [memos, List.mem_cons, List.not_mem_nil, or_false] at hx
    rcases hx with rfl | rfl | rfl
    all_goals (first | (show 56 ≠ f; omega) | (show 44 ≠ f; omega))
  · simp only [told3, List.mem_cons, List.not_mem_nil, or_false] at hx
    rcases hx with rfl | rfl | rfl | rfl | rfl | rfl | rfl | rfl | rfl | rfl | rfl | rfl | rfl | rfl | rfl | rfl | rfl | rfl | rfl | rfl
    all_goals (first | (show 60 ≠ f; omega) | (show 16 ≠ f; omega) | (show 5 ≠ f; omega))
theorem grow3 {m : Mem} {el : Nat} {cs : List V} : ∀ (j : Nat) (v : V), cs[j]? = some v → (m.newU el cs cs.length).2.cell m.next j = some v := fun j v h => (Grow.first m el cs).1.cell h
theorem xh : Sy.XH extP where
  no := no_ext
  lev m hg := by
    obtain ⟨g, a, b, c⟩ := m
    have hg : g = glL Sy.syVars := hg
    subst hg
    refine ⟨_, _, (by kernel_rfl : extP 44 [] ⟨glL Sy.syVars, a, b, c⟩ = some (.sl a 0 3 3 1, ((⟨glL Sy.syVars, a, b, c⟩ : Mem).newU 9 [.str 4 1008745789, .str 3 2957355, .str 3 3088426] 3).2)), (Grow.first _ _ _).2.1, fun l hl => ?_⟩
    rcases (show l = 0 ∨ l = 1 ∨ l = 2 by omega) with rfl | rfl | rfl
    all_goals exact grow3 _ _ (show _ = _ by kernel_rfl)
  pri m hg := by
    obtain ⟨g, a, b, c⟩ := m
    have hg : g = glL Sy.syVars := hg
    subst hg
    refine ⟨_, _, (by kernel_rfl : extP 56 [Go.Ev.vs (txt [43, 32, 45, 32, 42, 32, 47, 32, 61, 61, 32, 60]), Go.Ev.vs (txt [32])] ⟨glL Sy.syVars, a, b, c⟩ = some (.sl a 0 6 6 1, ((⟨glL Sy.syVars, a, b, c⟩ : Mem).newU 9 [.str 1 43, .str 1 45, .str 1 42, .str 1 47, .str 2 15677, .str 1 60] 6).2)), (Grow.first _ _ _).2.1, ?_, fun l hl => ?_⟩
    · exact Nat.lt_succ_self a
    rcases (show l = 0 ∨ l = 1 ∨ l = 2 ∨ l = 3 ∨ l = 4 ∨ l = 5 by omega) with rfl | rfl | rfl | rfl | rfl | rfl
    all_goals exact grow3 _ _ (show _ = _ by kernel_rfl)
  con m l j hg hl hj := by
    obtain ⟨g, a, b, c⟩ := m
    have hg : g = glL Sy.syVars := hg
    subst hg
    rcases (show l = 0 ∨ l = 1 ∨ l = 2 by omega) with rfl | rfl | rfl <;> rcases (show j = 0 ∨ j = 1 ∨ j = 2 ∨ j = 3 ∨ j = 4 ∨ j = 5 by omega) with rfl | rfl | rfl | rfl | rfl | rfl
    all_goals exact (show _ = _ by kernel_rfl)
theorem lh : Sy.LH xb extP where
  no := no_ext
  idx l m hg hl := by
    obtain ⟨g, a, b, c⟩ := m
    have hg : g = glL Sy.syVars := hg
    subst hg
    refine ⟨_, extTwo_right (extTold_none (by decide)) (extTwo_left (extTwo_left (extIdx_eval rfl (show l.length < 4294967281 by omega)))), ?_⟩
    have := findSub_eq (txt l) (txt [10]) (l.length + 1) 0 (by rw [txt_len]; omega) (fun j hj => absurd hj (by omega))
    exact Sy.index10 l (this.symm ▸ rfl)
  kws m hg := by
    obtain ⟨g, a, b, c⟩ := m
    have hg : g = glL Sy.syVars := hg
    subst hg
    refine ⟨_, _, (by kernel_rfl : extP 56 [Go.Ev.vs (txt Sy.keywordsL), Go.Ev.vs (txt [32])] ⟨glL Sy.syVars, a, b, c⟩ = some (.sl a 0 17 17 1, ((⟨glL Sy.syVars, a, b, c⟩ : Mem).newU 9 [.str 3 7239014, .str 3 7628140, .str 3 6514034, .str 2 28265, .str 2 26217, .str 4 1852139636, .str 4 1702063205, .str 6 111516215828840, .str 4 1752459639, .str 6 121437875889522, .str 3 6581861, .str 2 28516, .str 2 28783, .str 4 1702195828, .str 5 435728179558, .str 3 7630441, .str 4 1819242338] 17).2)), (Grow.first _ _ _).2.1, ?_, fun j k hj => ?_⟩
    · exact Nat.lt_succ_self a
    have hj17 : j < 17 := (List.getElem?_eq_some_iff.1 hj).1
    refine grow3 _ _ ?_
    rcases (show j = 0 ∨ j = 1 ∨ j = 2 ∨ j = 3 ∨ j = 4 ∨ j = 5 ∨ j = 6 ∨ j = 7 ∨ j = 8 ∨ j = 9 ∨ j = 10 ∨ j = 11 ∨ j = 12 ∨ j = 13 ∨ j = 14 ∨ j = 15 ∨ j = 16 by omega) with rfl | rfl | rfl | rfl | rfl | rfl | rfl | rfl | rfl | rfl | rfl | rfl | rfl | rfl | rfl | rfl | rfl
    all_goals (cases (Option.some.inj hj).symm; exact (show _ = _ by kernel_rfl))
  toldN m hg := by
    obtain ⟨g, a, b, c⟩ := m
    have hg : g = glL Sy.syVars := hg
    subst hg
    exact (by kernel_rfl : extP 16 [.nili] ⟨glL Sy.syVars, a, b, c⟩ = some (.tup [.int .i64 0, .int .i64 0], ⟨glL Sy.syVars, a, b, c⟩))
  toldE m fb a c hg hb := by
    have h0 := hb.cell (i := 0) rfl
    have h1 := hb.cell (i := 1) rfl
    refine extTwo_left ?_
    unfold extT extTold
    rw [goodOk hg]
    simp only [h0, h1, Nat.beq_refl, Bool.and_self, cond_true]
  toldW m fb wb a s hg hb hw := by
    have h0 := hb.cell (i := 0) rfl
    have h1 := hb.cell (i := 1) rfl
    have h2 := hw.cell (i := 0) rfl
    unfold Go.Ev.vs at h2
    refine extTwo_left ?_
    unfold extT extTold
    rw [goodOk hg]
    simp only [h0, h1, h2, Nat.beq_refl, Bool.and_self, cond_true]
  xi l c m := by
    have hc := c.toNat_lt
    show (bif Nat.blt c.toNat 256 then some (V.int .i64 (findByte (bytesOf (txt l)) c.toNat (txt l).size 0), m) else none) = _
    rw [show Nat.blt c.toNat 256 = true by rw [Nat.blt_eq]; exact hc]
    rfl
theorem awP : ∀ m, Sy.Good m.gl → extP 5 [] m = some (.bool true, m) := fun m hg => by
  obtain ⟨g, a, b, c⟩ := m
  have hg : g = glL Sy.syVars := hg
  subst hg
  exact (by kernel_rfl : extP 5 [] ⟨glL Sy.syVars, a, b, c⟩ = some (.bool true, ⟨glL Sy.syVars, a, b, c⟩))
theorem memOf_good : Sy.Good (memOf vars).gl := rfl
theorem memOf_new : New (memOf vars) := fun b _ => rfl
theorem varsAtP {W : World} (hG : Err.ErrTy W) (hS : W.ShapedOpen Tryd.prog) : ∀ g i v, glL vars g i = some v → ∃ x, W.cell? ⟨g, i, none⟩ = some x ∧ Rel zeroS v x := fun g i v h => by
  have := glL_mem h
  unfold vars at this
  rcases List.mem_cons.1 this with h1 | h1
  · cases h1
    obtain ⟨k, hk⟩ := maxAt hS
    exact ⟨_, hk, .res _ _ _ k (Nat.mod_one _) (fun h => by cases h)⟩
  · rw [List.mem_singleton] at h1
    cases h1
    exact ⟨_, hG, .iface _ (Rel.aggL.2 (.cons (.gptr _ _) (.nil _)))⟩
theorem calls_par {f : Nat} {args : List V} {m' : Mem} (h : Ev Tryd.prog xb extP f args (memOf vars) (.bool true) m') {us : Array Value} {W : World} (hG : Err.ErrTy W) (hS : W.ShapedOpen Tryd.prog) (hr : RelL zeroS args us.toList) :
    Calls Tryd.prog f us W fun e W' => e = .returned (.bool true) ∧ RowKit.Below W.heap.size W W' := by
  obtain ⟨n, hn⟩ := h
  refine (calls_of (ok extP extPOk n) (hn n (Nat.le_refl _)) rfl (varsAtP hG hS) hr).mono fun e w' ⟨⟨x, he, hR⟩, hb⟩ => ?_
  cases hR
  exact ⟨he, hb⟩
end Go.Proofs.YtoedpbjeangdhaaDoor.Ev

namespace Go.Proofs.YtoedpbjeangdhaaDoor.Ev
open Go Go.Ev
set_option linter.unusedVariables false
theorem deep_ev : ∀ w, w < 4 → ∀ r, r < 64 → ∃ m', Ev Tryd.prog xb extP 3 [.res .i64 4 w, .res .i64 64 r] (memOf vars) (.bool true) m' := fun w hw r hr => by
  rcases (show w = 0 ∨ w = 1 ∨ w = 2 ∨ w = 3 by omega) with rfl | rfl | rfl | rfl
  · obtain ⟨v, m', h, rfl⟩ := Sy.deep0 lh xh awP memOf_new memOf_good r hr ((Nat.lt_or_ge r 32).elim (fun h => Sy.deepH_0_0 r (Nat.zero_le _) h) (fun h => Sy.deepH_0_1 r h hr))
    exact ⟨m', h⟩
  · obtain ⟨v, m', h, rfl⟩ := Sy.deep1 lh xh awP memOf_new memOf_good r hr ((Nat.lt_or_ge r 32).elim (fun h => Sy.deepH_1_0 r (Nat.zero_le _) h) (fun h => Sy.deepH_1_1 r h hr))
    exact ⟨m', h⟩
  · obtain ⟨v, m', h, rfl⟩ := Sy.deep2 lh xh awP memOf_new memOf_good r hr ((Nat.lt_or_ge r 32).elim (fun h => Sy.deepH_2_0 r (Nat.zero_le _) h) (fun h => Sy.deepH_2_1 r h hr))
    exact ⟨m', h⟩
  · obtain ⟨v, m', h, rfl⟩ := Sy.deep3 lh xh awP memOf_new memOf_good r hr ((Nat.lt_or_ge r 32).elim (fun h => Sy.deepH_3_0 r (Nat.zero_le _) h) (fun h => Sy.deepH_3_1 r h hr))
    exact ⟨m', h⟩
theorem calls_ParseDeep (a0 a1 : Int) (W : World) (hG : Err.ErrTy W) (hS : W.ShapedOpen Tryd.prog) : Calls Tryd.prog 3 #[.int .i64 a0, .int .i64 a1] W fun e W' => e = .returned (.bool true) ∧ RowKit.Below W.heap.size W W' := by
  obtain ⟨m', h⟩ := deep_ev ((a0 % 18446744073709551616).toNat % 4) (Nat.mod_lt _ (by decide)) ((a1 % 18446744073709551616).toNat % 64) (Nat.mod_lt _ (by decide))
  exact calls_par h (us := #[.int .i64 a0, .int .i64 a1]) hG hS (.cons (.res _ _ _ a0 rfl (fun h => by cases h)) (.cons (.res _ _ _ a1 rfl (fun h => by cases h)) (.nil _)))
end Go.Proofs.YtoedpbjeangdhaaDoor.Ev
