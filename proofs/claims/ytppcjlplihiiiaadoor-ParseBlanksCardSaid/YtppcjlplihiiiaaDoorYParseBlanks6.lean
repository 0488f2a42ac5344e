/- Several texts in one: contracts of functions of the program, and what they lean on. In part written by a program of this session over the kit's print, in part by hand. -/
import Derived.Test.YtppcjlplihiiiaaDoorYParseBlanks5
import Derived.Test.YtppcjlplihiiiaaDoorYParseBlanks4
namespace Go.Proofs.YtppcjlplihiiiaaDoor.Sy
open Go Go.Ev Go.Ev.Pm
set_option linter.unusedVariables false
set_option linter.unusedSimpArgs false
set_option linter.unusedSectionVars false
def sg : Nat → ByteArray
  | 0 => kadd | 1 => ksub | 2 => kmul | 3 => kquo | 4 => keq | _ => klt
def lv : Nat → ByteArray
  | 0 => ⟨#[61, 61, 32, 60]⟩ | 1 => ⟨#[43, 32, 45]⟩ | _ => ⟨#[42, 32, 47]⟩
def cont : Nat → Nat → Bool
  | 0, j => Nat.beq j 4 || Nat.beq j 5
  | 1, j => Nat.beq j 0 || Nat.beq j 1
  | _, j => Nat.beq j 2 || Nat.beq j 3
structure XH (ext : CallF) : Prop where
  no : ∀ (f : Nat) (a : List V) (m : Mem), f ∉ XS → ext f a m = none
  lev : ∀ m, Good m.gl → ∃ g m1, ext 46 [] m = some (.sl g 0 3 3 1, m1) ∧ Fr (fun _ => False) m m1 ∧ ∀ l, l < 3 → m1.cell g l = some (vs (lv l))
  pri : ∀ m, Good m.gl → ∃ g m1, ext 58 [vs (txt [43, 32, 45, 32, 42, 32, 47, 32, 61, 61, 32, 60]), vs (txt [32])] m = some (.sl g 0 6 6 1, m1) ∧ Fr (fun _ => False) m m1 ∧ g < m1.next ∧ ∀ j, j < 6 → m1.cell g j = some (vs (sg j))
  con : ∀ m l j, Good m.gl → l < 3 → j < 6 → ext 62 [vs (txt [32] ++ lv l ++ txt [32]), vs (txt [32] ++ sg j ++ txt [32])] m = some (.bool (cont l j), m)
theorem lv_size (l : Nat) : (lv l).size ≤ 4 := by unfold lv; split <;> decide
theorem sg_size (j : Nat) : (sg j).size ≤ 2 := by unfold sg; split <;> decide
section
variable {m m' : Mem} {E : Int} {pb : Nat} {oN oO : Nat → Prop} {P P' : PS}
variable {xb : XB} {ext : CallF} (hX : XH ext)
include hX
theorem prims_spec (hm : Good m.gl) : ∃ g m1, Ev Tryd.prog xb ext 61 [] m (.sl g 0 6 6 1) m1 ∧ Fr (fun _ => False) m m1 ∧ g < m1.next ∧ ∀ j, j < 6 → m1.cell g j = some (vs (sg j)) := by
  obtain ⟨g, m1, h1, h2, h3, h4⟩ := hX.pri m hm
  refine ⟨g, ?_⟩
  refine ev_to ?_
  have hv := ev_ext (p := Tryd.prog) (xb := xb) h1
  refine ev_of (fun m => hX.no _ _ m (by decide)) Tryd.func61 rfl rfl ?_
  refine wc_seq (wc_region (wa rfl rfl (wo_nil (thenW_n (wc_seq (wc_region ?_))))))
  refine wo_call rfl rfl (by kernel_rfl) (hv) rfl rfl ?_
  refine wa rfl rfl (wo_nil (thenW_n (wc_ret ?_)))
  refine endW_ret rfl rfl ?_
  exact ⟨rfl, h2, h3, h4⟩
def hit (l j : Nat) (P : PS) : Bool := cont l j && is P (sg j)
omit hX in
theorem prim_of {l : Nat} (hl : l < 3) {k : Nat} (hk : k < 6) (h : hit l k P = true) (hn : ∀ j, j < k → hit l j P = false) : prim l P = some (k : Int) := by
  have h3 : l = 0 ∨ l = 1 ∨ l = 2 := by omega
  have h6 : k = 0 ∨ k = 1 ∨ k = 2 ∨ k = 3 ∨ k = 4 ∨ k = 5 := by omega
  rcases h3 with rfl | rfl | rfl <;> rcases h6 with rfl | rfl | rfl | rfl | rfl | rfl <;> simp [hit, cont, sg] at h <;> simp only [prim]
  · rw [if_pos h]; rfl
  · have := hn 4 (by omega); simp [hit, cont, sg] at this; rw [this, if_neg (by decide), if_pos h]; rfl
  · rw [if_pos h]; rfl
  · have := hn 0 (by omega); simp [hit, cont, sg] at this; rw [this, if_neg (by decide), if_pos h]; rfl
  · rw [if_pos h]; rfl
  · have := hn 2 (by omega); simp [hit, cont, sg] at this; rw [this, if_neg (by decide), if_pos h]; rfl
omit hX in
theorem prim_none {l : Nat} (hl : l < 3) (hn : ∀ j, j < 6 → hit l j P = false) : prim l P = none := by
  have h3 : l = 0 ∨ l = 1 ∨ l = 2 := by omega
  rcases h3 with rfl | rfl | rfl <;> simp only [prim]
  · have a := hn 4 (by omega); have b := hn 5 (by omega); simp [hit, cont, sg] at a b; rw [a, b]; rfl
  · have a := hn 0 (by omega); have b := hn 1 (by omega); simp [hit, cont, sg] at a b; rw [a, b]; rfl
  · have a := hn 2 (by omega); have b := hn 3 (by omega); simp [hit, cont, sg] at a b; rw [a, b]; rfl
def primI (l : Nat) (P : PS) : Int := (prim l P).getD (-1)
theorem prim_spec (h : Rep m E pb oN oO P) {l : Nat} (hl : l < 3) : ∃ m', Ev Tryd.prog xb ext 48 [.ptr pb 0, .int .i64 l] m (.int .i64 (primI l P)) m' ∧ Post m E pb oN oO m' P := by
  obtain ⟨gp, mp, hp, fp, lp, cp⟩ := prims_spec (xb := xb) hX h.gl
  refine ev_to ?_
  refine ev_of (fun m => hX.no _ _ m (by decide)) Tryd.func48 rfl rfl ?_
  refine wc_seq (wc_region (wa rfl rfl (wo_nil (thenW_n (wc_seq (wc_seq (wc_region ?_)))))))
  refine wo_call rfl rfl (by kernel_rfl) (hp) rfl rfl ?_
  first
    | refine wo_n rfl (nv_lenS rfl rfl rfl) rfl rfl ?_
    | refine wo_n rfl (nv_lenN rfl rfl rfl) rfl rfl ?_
    | refine wo_n rfl (nv_lenR (by assumption) rfl rfl rfl) rfl rfl ?_
  refine wm rfl rfl (wo_nil (thenW_n (wc_block ?_)))
  refine wc_loop (fun n e m' => ∃ j : Nat, n = 6 - j ∧ j ≤ 6 ∧ ELe (envL [(0, .ptr pb 0), (1, .int .i64 l), (7, .sl gp 0 6 6 1), (8, .int .i64 6), (9, .int .i64 j)]) e ∧ Fr (fun _ => False) mp m' ∧ ∀ i, i < j → hit l i P = false) 6 ⟨0, rfl, by omega, ?_, Fr.refl _ _, fun i hi => by omega⟩ ?_
  · exact .cons rfl (.cons rfl (.cons rfl (.cons rfl (.cons rfl (.nil _)))))
  rintro n e mj ⟨j, rfl, hj6, he, fj, hn⟩
  have f2 : Fr (fun _ => False) m mj := fp.trans fj (fun _ _ h => h)
  have r2 := h.alloc f2
  refine Wc.weak ?_ he
  have sl := lv_size l
  have ss := sg_size j
  rcases Nat.lt_or_ge j 6 with hj | hj
  · have c6 : mj.cell gp (0 + j * 1) = some (vs (sg j)) := by
      rw [fr_cell fj lp (fun h => h), Nat.zero_add, Nat.mul_one]; exact cp j hj
    obtain ⟨gl, ml, hlv, fl, cl⟩ := hX.lev mj r2.gl
    have hlv' := ev_ext (p := Tryd.prog) (xb := xb) hlv
    have c3 : ml.cell gl (0 + l * 1) = some (vs (lv l)) := by rw [Nat.zero_add, Nat.mul_one]; exact cl l hl
    have r3 := r2.alloc fl
    have hc := ev_ext (p := Tryd.prog) (xb := xb) (hX.con ml l j r3.gl hl hj)
    cases hcb : cont l j with
    | false =>
      rw [hcb] at hc
      refine wc_seq (wc_region (wo_n rfl (nv_lssT rfl rfl rfl (by first | assumption | decide | omega)) rfl rfl (wo_nil (thenW_n (wc_seq (wc_true rfl (wc_skip (thenW_n (wc_seq ?_)))))))))
      refine wc_block (wc_seq (wc_region (wm rfl rfl ?_)))
      refine wo_n rfl (nv_ia rfl rfl rfl (ia_sl (by first | assumption | omega))) rfl rfl ?_
      refine wo_m rfl (mv_load rfl rfl (by assumption)) rfl rfl ?_
      refine wa rfl rfl (wa rfl rfl (wo_nil (thenW_n (wc_seq (wc_region ?_)))))
      refine wo_call rfl rfl (by kernel_rfl) (hlv') rfl rfl ?_
      refine wm rfl rfl ?_
      refine wo_n rfl (nv_ia rfl rfl rfl (ia_sl (by first | assumption | omega))) rfl rfl ?_
      refine wo_m rfl (mv_load rfl rfl (by assumption)) rfl rfl ?_
      refine wo_n rfl (nv_sadd (s := txt [32]) rfl (show _ = some (vs (txt [32])) by kernel_rfl) rfl (by first | assumption | (simp only [ByteArray.size_append, txt_size, List.length]; omega))) rfl rfl ?_
      refine wo_n rfl (nv_sadd (u := txt [32]) rfl rfl (show _ = some (vs (txt [32])) by kernel_rfl) (by first | assumption | (simp only [ByteArray.size_append, txt_size, List.length]; omega))) rfl rfl ?_
      refine wm rfl rfl ?_
      refine wo_n rfl (nv_sadd (s := txt [32]) rfl (show _ = some (vs (txt [32])) by kernel_rfl) rfl (by first | assumption | (simp only [ByteArray.size_append, txt_size, List.length]; omega))) rfl rfl ?_
      refine wo_n rfl (nv_sadd (u := txt [32]) rfl rfl (show _ = some (vs (txt [32])) by kernel_rfl) (by first | assumption | (simp only [ByteArray.size_append, txt_size, List.length]; omega))) rfl rfl ?_
      refine wo_call rfl rfl (by kernel_rfl) (hc) rfl rfl ?_
      refine wm rfl rfl (wg rfl (wg rfl (wg rfl (wq rfl rfl rfl (wo_nil (thenW_n (wc_false rfl (wc_skip (blockW_n ?_)))))))))
      refine thenW_n (wc_region ?_)
      refine wo_n rfl (nv_add rfl rfl rfl rfl (by first | decide | omega) (by first | decide | omega)) rfl rfl ?_
      refine wm rfl rfl (wo_nil ?_)
      refine ⟨6 - (j + 1), by omega, j + 1, rfl, by omega, ?_, fj.trans fl (fun _ _ h => h), fun i hi => ?_⟩
      · exact .cons rfl (.cons rfl (.cons rfl (.cons rfl (.cons rfl (.nil _)))))
      · rcases Nat.lt_or_ge i j with h1 | h1
        · exact hn i h1
        · have : i = j := by omega
          subst this; simp [hit, hcb]
    | true =>
      rw [hcb] at hc
      have hi := is_spec (xb := xb) hX.no r3 (sg j)
      cases hs : is P (sg j) with
      | false =>
        rw [hs] at hi
        refine wc_seq (wc_region (wo_n rfl (nv_lssT rfl rfl rfl (by first | assumption | decide | omega)) rfl rfl (wo_nil (thenW_n (wc_seq (wc_true rfl (wc_skip (thenW_n (wc_seq ?_)))))))))
        refine wc_block (wc_seq (wc_region (wm rfl rfl ?_)))
        refine wo_n rfl (nv_ia rfl rfl rfl (ia_sl (by first | assumption | omega))) rfl rfl ?_
        refine wo_m rfl (mv_load rfl rfl (by assumption)) rfl rfl ?_
        refine wa rfl rfl (wa rfl rfl (wo_nil (thenW_n (wc_seq (wc_region ?_)))))
        refine wo_call rfl rfl (by kernel_rfl) (hlv') rfl rfl ?_
        refine wm rfl rfl ?_
        refine wo_n rfl (nv_ia rfl rfl rfl (ia_sl (by first | assumption | omega))) rfl rfl ?_
        refine wo_m rfl (mv_load rfl rfl (by assumption)) rfl rfl ?_
        refine wo_n rfl (nv_sadd (s := txt [32]) rfl (show _ = some (vs (txt [32])) by kernel_rfl) rfl (by first | assumption | (simp only [ByteArray.size_append, txt_size, List.length]; omega))) rfl rfl ?_
        refine wo_n rfl (nv_sadd (u := txt [32]) rfl rfl (show _ = some (vs (txt [32])) by kernel_rfl) (by first | assumption | (simp only [ByteArray.size_append, txt_size, List.length]; omega))) rfl rfl ?_
        refine wm rfl rfl ?_
        refine wo_n rfl (nv_sadd (s := txt [32]) rfl (show _ = some (vs (txt [32])) by kernel_rfl) rfl (by first | assumption | (simp only [ByteArray.size_append, txt_size, List.length]; omega))) rfl rfl ?_
        refine wo_n rfl (nv_sadd (u := txt [32]) rfl rfl (show _ = some (vs (txt [32])) by kernel_rfl) (by first | assumption | (simp only [ByteArray.size_append, txt_size, List.length]; omega))) rfl rfl ?_
        refine wo_call rfl rfl (by kernel_rfl) (hc) rfl rfl ?_
        refine wm rfl rfl (wm rfl rfl (wm rfl rfl ?_))
        refine wo_call rfl rfl (by kernel_rfl) (hi) rfl rfl ?_
        refine wp rfl rfl rfl (wo_nil (thenW_n (wc_false rfl (wc_skip (blockW_n (thenW_n (wc_region ?_)))))))
        refine wo_n rfl (nv_add rfl rfl rfl rfl (by first | decide | omega) (by first | decide | omega)) rfl rfl ?_
        refine wm rfl rfl (wo_nil ?_)
        refine ⟨6 - (j + 1), by omega, j + 1, rfl, by omega, ?_, fj.trans fl (fun _ _ h => h), fun i hi => ?_⟩
        · exact .cons rfl (.cons rfl (.cons rfl (.cons rfl (.cons rfl (.nil _)))))
        · rcases Nat.lt_or_ge i j with h1 | h1
          · exact hn i h1
          · have : i = j := by omega
            subst this; simp [hit, hs]
      | true =>
        rw [hs] at hi
        have hpr : primI l P = j := by unfold primI; rw [prim_of hl hj (by simp [hit, hcb, hs]) hn]; rfl
        refine wc_seq (wc_region (wo_n rfl (nv_lssT rfl rfl rfl (by first | assumption | decide | omega)) rfl rfl (wo_nil (thenW_n (wc_seq (wc_true rfl (wc_skip (thenW_n (wc_seq ?_)))))))))
        refine wc_block (wc_seq (wc_region (wm rfl rfl ?_)))
        refine wo_n rfl (nv_ia rfl rfl rfl (ia_sl (by first | assumption | omega))) rfl rfl ?_
        refine wo_m rfl (mv_load rfl rfl (by assumption)) rfl rfl ?_
        refine wa rfl rfl (wa rfl rfl (wo_nil (thenW_n (wc_seq (wc_region ?_)))))
        refine wo_call rfl rfl (by kernel_rfl) (hlv') rfl rfl ?_
        refine wm rfl rfl ?_
        refine wo_n rfl (nv_ia rfl rfl rfl (ia_sl (by first | assumption | omega))) rfl rfl ?_
        refine wo_m rfl (mv_load rfl rfl (by assumption)) rfl rfl ?_
        refine wo_n rfl (nv_sadd (s := txt [32]) rfl (show _ = some (vs (txt [32])) by kernel_rfl) rfl (by first | assumption | (simp only [ByteArray.size_append, txt_size, List.length]; omega))) rfl rfl ?_
        refine wo_n rfl (nv_sadd (u := txt [32]) rfl rfl (show _ = some (vs (txt [32])) by kernel_rfl) (by first | assumption | (simp only [ByteArray.size_append, txt_size, List.length]; omega))) rfl rfl ?_
        refine wm rfl rfl ?_
        refine wo_n rfl (nv_sadd (s := txt [32]) rfl (show _ = some (vs (txt [32])) by kernel_rfl) rfl (by first | assumption | (simp only [ByteArray.size_append, txt_size, List.length]; omega))) rfl rfl ?_
        refine wo_n rfl (nv_sadd (u := txt [32]) rfl rfl (show _ = some (vs (txt [32])) by kernel_rfl) (by first | assumption | (simp only [ByteArray.size_append, txt_size, List.length]; omega))) rfl rfl ?_
        refine wo_call rfl rfl (by kernel_rfl) (hc) rfl rfl ?_
        refine wm rfl rfl (wm rfl rfl (wm rfl rfl ?_))
        refine wo_call rfl rfl (by kernel_rfl) (hi) rfl rfl ?_
        refine wp rfl rfl rfl (wo_nil (thenW_n (wc_true rfl (wc_seq (wc_region (wm rfl rfl (wa rfl rfl (wo_nil (thenW_n ?_)))))))))
        refine wc_ret (blockW_r (thenW_r ?_))
        refine blockW_r (thenW_r ?_)
        refine endW_ret rfl rfl ?_
        exact ⟨by rw [hpr], .alloc h (f2.trans fl (fun _ _ h => h)) (.refl r3)⟩
  · have : j = 6 := by omega
    subst this
    have hpr : primI l P = -1 := by unfold primI; rw [prim_none hl hn]; rfl
    refine wc_seq (wc_region (wo_n rfl (nv_lssF rfl rfl rfl (by first | assumption | decide | omega)) rfl rfl (wo_nil (thenW_n (wc_seq (wc_false rfl (wc_exit (thenW_x ?_))))))))
    refine blockW_x (thenW_n (wc_seq (wc_region (wa rfl rfl (wo_nil (thenW_n (wc_ret ?_)))))))
    refine endW_ret rfl rfl ?_
    exact ⟨by rw [hpr], .alloc h f2 (.refl r2)⟩
end
end Go.Proofs.YtppcjlplihiiiaaDoor.Sy

namespace Go.Proofs.YtppcjlplihiiiaaDoor.Sy
open Go Go.Ev Go.Ev.Pm
set_option linter.unusedVariables false
set_option linter.unusedSimpArgs false
set_option linter.unusedSectionVars false
section
variable {m m' : Mem} {E : Int} {pb : Nat} {oN oO : Nat → Prop} {P P' : PS}
theorem setDeep (h : Rep m E pb oN oO P) {tv ov nv ev : V} (hp : Parts m E pb oN oO P tv ov nv ev) {d : Int} (d0 : 0 ≤ d) (d1 : d ≤ 40) {m1 : Mem} (o1 : Blok m1 pb 46 [tv, .int .i64 E, ov, nv, ev, .int .i64 d]) (f1 : Fr (fun q => q = pb) m m1) : Post m E pb oN oO m1 { P with deep := d } := by
  obtain ⟨t1, t2, t3, t4⟩ := hp.move h.dN h.dO f1 (fun _ _ h => h)
  exact ⟨oN, oO, ⟨⟨_, _, _, _, ⟨o1, t1, t2, t3, t4⟩⟩, h.dN, h.dO, h.dd, h.nl, h.ol, d0, d1, f1.nw h.nw, fun x hx => Nat.lt_of_lt_of_le (h.lN x hx) f1.le, fun x hx => Nat.lt_of_lt_of_le (h.lO x hx) f1.le, by rw [f1.gl]; exact h.gl⟩, f1.mono (fun _ _ h => .inl h), fun _ _ h => h⟩
theorem Wx.to {el g : Nat} {cs : List V} {m1 m2 : Mem} {P1 P2 : PS} {aN aO : Nat → Prop} (w : Wx m E pb oN oO el g cs m1 P1) (hn : ¬ own pb aN aO g) (s : Sub m (own pb oN oO) (own pb aN aO)) (q : Post m1 E pb aN aO m2 P2) : Wx m E pb oN oO el g cs m2 P2 := by
  obtain ⟨c, d, r2, f2, s2⟩ := q
  exact ⟨w.b.fr f2 hn, ⟨c, d, r2, fun k => hn (s2 g w.b.lt k), fun y hy k => s y hy (s2 y (Nat.lt_of_lt_of_le hy w.f.le) k)⟩, w.f.trans f2 (fun q hq k => s q hq k), w.hg⟩
theorem Rep.first (h : Rep m E pb oN oO P) {t : Tk} {r : List Tk} (hT : P.toks = t :: r) : ∃ b off n c ov nv ev, Parts m E pb oN oO P (.sl b off n c 4) ov nv ev ∧ 1 ≤ n ∧ n ≤ c := by
  obtain ⟨tv, ov, nv, ev, hp⟩ := h.ex
  have ht := hp.toks
  rw [hT] at ht
  cases ht with
  | sl b off c n _ hn hts hc ho hb he => rw [List.length_cons] at hn; exact ⟨_, _, _, _, _, _, _, hp, by omega, hc⟩
theorem next_some {t : Tk} (h : next P = some t) : ∃ r, P.toks = t :: r := by
  unfold next at h
  cases hE : P.err with
  | some z => rw [hE] at h; cases h
  | none =>
    rw [hE] at h
    cases hc : P.toks with
    | nil => rw [hc] at h; cases h
    | cons a r => rw [hc] at h; cases h; exact ⟨r, rfl⟩
variable {xb : XB} {ext : CallF} (hX : XH ext)
include hX
theorem take_true (h : Rep m E pb oN oO P) (s : ByteArray) (hs : is P s = true) : ∃ m', Ev Tryd.prog xb ext 30 [.ptr pb 0, vs s] m (.bool true) m' ∧ Post m E pb oN oO m' (drop1 P) := by
  have := take_spec (xb := xb) hX.no h s
  unfold take at this
  rw [hs] at this
  exact this
theorem take_false (h : Rep m E pb oN oO P) (s : ByteArray) (hs : is P s = false) : ∃ m', Ev Tryd.prog xb ext 30 [.ptr pb 0, vs s] m (.bool false) m' ∧ Post m E pb oN oO m' P := by
  have := take_spec (xb := xb) hX.no h s
  unfold take at this
  rw [hs] at this
  exact this
theorem starts_spec (h : Rep m E pb oN oO P) : Ev Tryd.prog xb ext 60 [.ptr pb 0] m (.bool (starts P)) m := by
  obtain ⟨v, hv, hN⟩ := next_spec (xb := xb) hX.no h
  have i1 := is_spec (xb := xb) hX.no h ktrue
  have i2 := is_spec (xb := xb) hX.no h kfalse
  have i3 := is_spec (xb := xb) hX.no h kopen
  have i4 := is_spec (xb := xb) hX.no h khandle
  refine ev_val ?_
  unfold starts
  cases hT : next P with
  | none =>
    rw [hT] at hN
    cases hN
    refine ev_of (fun m => hX.no _ _ m (by decide)) Tryd.func60 rfl rfl ?_
    refine wc_seq (wc_region (wa rfl rfl (wo_nil (thenW_n (wc_seq (wc_region (wm rfl rfl ?_)))))))
    refine wo_call rfl rfl (by kernel_rfl) (hv) rfl rfl ?_
    refine wa rfl rfl (wo_nil (thenW_n (wc_seq (wc_block (wc_seq (wc_region (wm rfl rfl (wo_n rfl (nv_eqlQ rfl rfl rfl) rfl rfl (wa rfl rfl ?_)))))))))
    refine wo_nil (thenW_n (wc_true rfl (wc_seq (wc_region (wa rfl rfl (wo_nil (thenW_n (wc_ret (blockW_r ?_)))))))))
    refine thenW_r ?_
    refine endW_ret rfl rfl ?_
    exact ⟨rfl, rfl⟩
  | some t =>
    rw [hT] at hN
    obtain ⟨b, o, rfl, hA, hno, hbl⟩ := hN
    have hk := hA.k
    dsimp only
    by_cases h0 : t.kind = 0
    · refine ev_of (fun m => hX.no _ _ m (by decide)) Tryd.func60 rfl rfl ?_
      refine wc_seq (wc_region (wa rfl rfl (wo_nil (thenW_n (wc_seq (wc_region (wm rfl rfl ?_)))))))
      refine wo_call rfl rfl (by kernel_rfl) (hv) rfl rfl ?_
      refine wa rfl rfl (wo_nil (thenW_n (wc_seq (wc_block (wc_seq (wc_region (wm rfl rfl (wo_n rfl (nv_eqlP rfl rfl rfl) rfl rfl (wa rfl rfl ?_)))))))))
      refine wo_nil (thenW_n (wc_false rfl (wc_seq (wc_seq (wc_region (wm rfl rfl (wk rfl rfl rfl (wf rfl rfl ?_))))))))
      refine wo_m rfl (mv_load rfl rfl (by assumption)) rfl rfl ?_
      refine wo_n rfl (nv_eqlT rfl rfl rfl (by first | assumption | decide | omega)) rfl rfl (wa rfl rfl (wo_nil (thenW_n (wc_true rfl (wc_skip (thenW_n (wc_true rfl (wc_seq (wc_region ?_)))))))))
      refine wa rfl rfl (wo_nil (thenW_n (wc_ret (blockW_r (thenW_r ?_)))))
      refine endW_ret rfl rfl ?_
      exact ⟨rfl, by simp [h0]⟩
    · by_cases h1 : t.kind = 1
      · refine ev_of (fun m => hX.no _ _ m (by decide)) Tryd.func60 rfl rfl ?_
        refine wc_seq (wc_region (wa rfl rfl (wo_nil (thenW_n (wc_seq (wc_region (wm rfl rfl ?_)))))))
        refine wo_call rfl rfl (by kernel_rfl) (hv) rfl rfl ?_
        refine wa rfl rfl (wo_nil (thenW_n (wc_seq (wc_block (wc_seq (wc_region (wm rfl rfl (wo_n rfl (nv_eqlP rfl rfl rfl) rfl rfl (wa rfl rfl ?_)))))))))
        refine wo_nil (thenW_n (wc_false rfl (wc_seq (wc_seq (wc_region (wm rfl rfl (wk rfl rfl rfl (wf rfl rfl ?_))))))))
        refine wo_m rfl (mv_load rfl rfl (by assumption)) rfl rfl ?_
        refine wo_n rfl (nv_eqlF rfl rfl rfl (by first | assumption | decide | omega)) rfl rfl (wa rfl rfl (wo_nil (thenW_n (wc_false rfl (wc_region (wm rfl rfl (wk rfl rfl rfl (wf rfl rfl ?_))))))))
        refine wo_m rfl (mv_load rfl rfl (by assumption)) rfl rfl ?_
        refine wo_n rfl (nv_eqlT rfl rfl rfl (by first | assumption | decide | omega)) rfl rfl (wa rfl rfl (wo_nil (thenW_n (wc_true rfl (wc_seq (wc_region (wa rfl rfl (wo_nil (thenW_n ?_)))))))))
        refine wc_ret (blockW_r (thenW_r ?_))
        refine endW_ret rfl rfl ?_
        exact ⟨rfl, by simp [h1]⟩
      · cases hs1 : is P ktrue with
        | true =>
          rw [hs1] at i1
          refine ev_of (fun m => hX.no _ _ m (by decide)) Tryd.func60 rfl rfl ?_
          refine wc_seq (wc_region (wa rfl rfl (wo_nil (thenW_n (wc_seq (wc_region (wm rfl rfl ?_)))))))
          refine wo_call rfl rfl (by kernel_rfl) (hv) rfl rfl ?_
          refine wa rfl rfl (wo_nil (thenW_n (wc_seq (wc_block (wc_seq (wc_region (wm rfl rfl (wo_n rfl (nv_eqlP rfl rfl rfl) rfl rfl (wa rfl rfl ?_)))))))))
          refine wo_nil (thenW_n (wc_false rfl (wc_seq (wc_seq (wc_region (wm rfl rfl (wk rfl rfl rfl (wf rfl rfl ?_))))))))
          refine wo_m rfl (mv_load rfl rfl (by assumption)) rfl rfl ?_
          refine wo_n rfl (nv_eqlF rfl rfl rfl (by first | assumption | decide | omega)) rfl rfl (wa rfl rfl (wo_nil (thenW_n (wc_false rfl (wc_region (wm rfl rfl (wk rfl rfl rfl (wf rfl rfl ?_))))))))
          refine wo_m rfl (mv_load rfl rfl (by assumption)) rfl rfl ?_
          refine wo_n rfl (nv_eqlF rfl rfl rfl (by first | assumption | decide | omega)) rfl rfl (wa rfl rfl (wo_nil (thenW_n (wc_false rfl (wc_skip (blockW_n (thenW_n (wc_seq (wc_region ?_)))))))))
          refine wm rfl rfl ?_
          refine wo_call rfl rfl (by kernel_rfl) (i1) rfl rfl ?_
          refine wm rfl rfl (wg rfl (wg rfl (wp rfl rfl rfl (wm rfl rfl (wg rfl (wg rfl (wp rfl rfl rfl (wm rfl rfl (wg rfl ?_)))))))))
          refine wg rfl (wp rfl rfl rfl (wa rfl rfl (wo_nil (thenW_n (wc_ret ?_)))))
          refine endW_ret rfl rfl ?_
          exact ⟨rfl, by simp⟩
        | false =>
          rw [hs1] at i1
          cases hs2 : is P kfalse with
          | true =>
            rw [hs2] at i2
            refine ev_of (fun m => hX.no _ _ m (by decide)) Tryd.func60 rfl rfl ?_
            refine wc_seq (wc_region (wa rfl rfl (wo_nil (thenW_n (wc_seq (wc_region (wm rfl rfl ?_)))))))
            refine wo_call rfl rfl (by kernel_rfl) (hv) rfl rfl ?_
            refine wa rfl rfl (wo_nil (thenW_n (wc_seq (wc_block (wc_seq (wc_region (wm rfl rfl (wo_n rfl (nv_eqlP rfl rfl rfl) rfl rfl (wa rfl rfl ?_)))))))))
            refine wo_nil (thenW_n (wc_false rfl (wc_seq (wc_seq (wc_region (wm rfl rfl (wk rfl rfl rfl (wf rfl rfl ?_))))))))
            refine wo_m rfl (mv_load rfl rfl (by assumption)) rfl rfl ?_
            refine wo_n rfl (nv_eqlF rfl rfl rfl (by first | assumption | decide | omega)) rfl rfl (wa rfl rfl (wo_nil (thenW_n (wc_false rfl (wc_region (wm rfl rfl (wk rfl rfl rfl (wf rfl rfl ?_))))))))
            refine wo_m rfl (mv_load rfl rfl (by assumption)) rfl rfl ?_
            refine wo_n rfl (nv_eqlF rfl rfl rfl (by first | assumption | decide | omega)) rfl rfl (wa rfl rfl (wo_nil (thenW_n (wc_false rfl (wc_skip (blockW_n (thenW_n (wc_seq (wc_region ?_)))))))))
            refine wm rfl rfl ?_
            refine wo_call rfl rfl (by kernel_rfl) (i1) rfl rfl ?_
            refine wm rfl rfl (wm rfl rfl ?_)
            refine wo_call rfl rfl (by kernel_rfl) (i2) rfl rfl ?_
            refine wq rfl rfl rfl (wm rfl rfl (wg rfl (wg rfl (wp rfl rfl rfl (wm rfl rfl (wg rfl (wg rfl (wp rfl rfl rfl (wa rfl rfl ?_)))))))))
            refine wo_nil (thenW_n (wc_ret ?_))
            refine endW_ret rfl rfl ?_
            exact ⟨rfl, by simp⟩
          | false =>
            rw [hs2] at i2
            cases hs3 : is P kopen with
            | true =>
              rw [hs3] at i3
              refine ev_of (fun m => hX.no _ _ m (by decide)) Tryd.func60 rfl rfl ?_
              refine wc_seq (wc_region (wa rfl rfl (wo_nil (thenW_n (wc_seq (wc_region (wm rfl rfl ?_)))))))
              refine wo_call rfl rfl (by kernel_rfl) (hv) rfl rfl ?_
              refine wa rfl rfl (wo_nil (thenW_n (wc_seq (wc_block (wc_seq (wc_region (wm rfl rfl (wo_n rfl (nv_eqlP rfl rfl rfl) rfl rfl (wa rfl rfl ?_)))))))))
              refine wo_nil (thenW_n (wc_false rfl (wc_seq (wc_seq (wc_region (wm rfl rfl (wk rfl rfl rfl (wf rfl rfl ?_))))))))
              refine wo_m rfl (mv_load rfl rfl (by assumption)) rfl rfl ?_
              refine wo_n rfl (nv_eqlF rfl rfl rfl (by first | assumption | decide | omega)) rfl rfl (wa rfl rfl (wo_nil (thenW_n (wc_false rfl (wc_region (wm rfl rfl (wk rfl rfl rfl (wf rfl rfl ?_))))))))
              refine wo_m rfl (mv_load rfl rfl (by assumption)) rfl rfl ?_
              refine wo_n rfl (nv_eqlF rfl rfl rfl (by first | assumption | decide | omega)) rfl rfl (wa rfl rfl (wo_nil (thenW_n (wc_false rfl (wc_skip (blockW_n (thenW_n (wc_seq (wc_region ?_)))))))))
              refine wm rfl rfl ?_
              refine wo_call rfl rfl (by kernel_rfl) (i1) rfl rfl ?_
              refine wm rfl rfl (wm rfl rfl ?_)
              refine wo_call rfl rfl (by kernel_rfl) (i2) rfl rfl ?_
              refine wq rfl rfl rfl (wm rfl rfl (wm rfl rfl ?_))
              refine wo_call rfl rfl (by kernel_rfl) (i3) rfl rfl ?_
              refine wq rfl rfl rfl (wm rfl rfl (wg rfl (wg rfl (wp rfl rfl rfl (wa rfl rfl (wo_nil (thenW_n (wc_ret ?_))))))))
              refine endW_ret rfl rfl ?_
              exact ⟨rfl, by simp⟩
            | false =>
              rw [hs3] at i3
              refine ev_of (fun m => hX.no _ _ m (by decide)) Tryd.func60 rfl rfl ?_
              refine wc_seq (wc_region (wa rfl rfl (wo_nil (thenW_n (wc_seq (wc_region (wm rfl rfl ?_)))))))
              refine wo_call rfl rfl (by kernel_rfl) (hv) rfl rfl ?_
              refine wa rfl rfl (wo_nil (thenW_n (wc_seq (wc_block (wc_seq (wc_region (wm rfl rfl (wo_n rfl (nv_eqlP rfl rfl rfl) rfl rfl (wa rfl rfl ?_)))))))))
              refine wo_nil (thenW_n (wc_false rfl (wc_seq (wc_seq (wc_region (wm rfl rfl (wk rfl rfl rfl (wf rfl rfl ?_))))))))
              refine wo_m rfl (mv_load rfl rfl (by assumption)) rfl rfl ?_
              refine wo_n rfl (nv_eqlF rfl rfl rfl (by first | assumption | decide | omega)) rfl rfl (wa rfl rfl (wo_nil (thenW_n (wc_false rfl (wc_region (wm rfl rfl (wk rfl rfl rfl (wf rfl rfl ?_))))))))
              refine wo_m rfl (mv_load rfl rfl (by assumption)) rfl rfl ?_
              refine wo_n rfl (nv_eqlF rfl rfl rfl (by first | assumption | decide | omega)) rfl rfl (wa rfl rfl (wo_nil (thenW_n (wc_false rfl (wc_skip (blockW_n (thenW_n (wc_seq (wc_region ?_)))))))))
              refine wm rfl rfl ?_
              refine wo_call rfl rfl (by kernel_rfl) (i1) rfl rfl ?_
              refine wm rfl rfl (wm rfl rfl ?_)
              refine wo_call rfl rfl (by kernel_rfl) (i2) rfl rfl ?_
              refine wq rfl rfl rfl (wm rfl rfl (wm rfl rfl ?_))
              refine wo_call rfl rfl (by kernel_rfl) (i3) rfl rfl ?_
              refine wq rfl rfl rfl (wm rfl rfl (wm rfl rfl ?_))
              refine wo_call rfl rfl (by kernel_rfl) (i4) rfl rfl ?_
              refine wq rfl rfl rfl (wa rfl rfl (wo_nil (thenW_n (wc_ret ?_))))
              refine endW_ret rfl rfl ?_
              exact ⟨rfl, by simp [h0, h1]⟩
end
structure SpecN (xb : XB) (ext : CallF) (E : Int) (pb : Nat) (n : Nat) : Prop where
  inner : ∀ {m : Mem} {oN oO : Nat → Prop} {P : PS} {v : Int} {Q : PS}, Rep m E pb oN oO P → run E n .inner P = some (v, Q) → ∃ m', Ev Tryd.prog xb ext 13 [.ptr pb 0] m (.int .i64 v) m' ∧ Post m E pb oN oO m' Q
  expr : ∀ {m : Mem} {oN oO : Nat → Prop} {P : PS} {v : Int} {Q : PS}, Rep m E pb oN oO P → run E n .expr P = some (v, Q) → ∃ m', Ev Tryd.prog xb ext 23 [.ptr pb 0] m (.int .i64 v) m' ∧ Post m E pb oN oO m' Q
  level : ∀ {m : Mem} {oN oO : Nat → Prop} {P : PS} {v : Int} {Q : PS} {l : Nat}, l ≤ 3 → Rep m E pb oN oO P → run E n (.level l) P = some (v, Q) → ∃ m', Ev Tryd.prog xb ext 32 [.ptr pb 0, .int .i64 (l : Nat)] m (.int .i64 v) m' ∧ Post m E pb oN oO m' Q
  apply : ∀ {m : Mem} {oN oO : Nat → Prop} {P : PS} {v : Int} {Q : PS}, Rep m E pb oN oO P → run E n .apply P = some (v, Q) → ∃ m', Ev Tryd.prog xb ext 47 [.ptr pb 0] m (.int .i64 v) m' ∧ Post m E pb oN oO m' Q
  atom : ∀ {m : Mem} {oN oO : Nat → Prop} {P : PS} {v : Int} {Q : PS}, Rep m E pb oN oO P → run E n .atom P = some (v, Q) → ∃ m', Ev Tryd.prog xb ext 59 [.ptr pb 0] m (.int .i64 v) m' ∧ Post m E pb oN oO m' Q
section
variable {m m' : Mem} {E : Int} {pb : Nat} {oN oO : Nat → Prop} {P P' : PS} {xb : XB} {ext : CallF} (hX : XH ext) {n : Nat} (hS : SpecN xb ext E pb n) {v : Int} {Q : PS}
include hX hS
theorem then_spec (h : Rep m E pb oN oO P) (s : ByteArray) (hr : run E n .inner (must E s P) = some (v, Q)) : ∃ m', Ev Tryd.prog xb ext 31 [.ptr pb 0, vs s] m (.int .i64 v) m' ∧ Post m E pb oN oO m' Q := by
  obtain ⟨m1, h1, A1⟩ := must_spec (xb := xb) hX.no h s
  obtain ⟨m2, h2, A2⟩ := A1.step fun _ _ r => hS.inner r hr
  refine ev_to ?_
  refine ev_of (fun m => hX.no _ _ m (by decide)) Tryd.func31 rfl rfl ?_
  refine wc_seq (wc_region (wa rfl rfl (wo_nil (thenW_n (wc_seq (wc_region (wm rfl rfl (wm rfl rfl ?_))))))))
  refine wo_call rfl rfl (by kernel_rfl) (h1) rfl rfl ?_
  refine wo_nil (thenW_n (wc_seq (wc_region (wm rfl rfl ?_))))
  refine wo_call rfl rfl (by kernel_rfl) (h2) rfl rfl ?_
  refine wa rfl rfl (wo_nil (thenW_n (wc_ret ?_)))
  refine endW_ret rfl rfl ?_
  exact ⟨rfl, A2⟩
theorem inner_spec (h : Rep m E pb oN oO P) (hr : run E (n + 1) .inner P = some (v, Q)) : ∃ m', Ev Tryd.prog xb ext 13 [.ptr pb 0] m (.int .i64 v) m' ∧ Post m E pb oN oO m' Q := by
  refine ev_to ?_
  simp only [run] at hr
  have hd0 := h.d0
  have hd1 := h.d1
  by_cases hd : P.deep = 40
  · have hpre : pre E P = fail E 401 P := by unfold pre; rw [if_pos hd]
    obtain ⟨z, hz⟩ := fail_err (E := E) 401 P
    rw [hpre, hz] at hr
    cases hr
    obtain ⟨mf, hf, pf⟩ := fail_spec (xb := xb) hX.no h (.no 401)
    obtain ⟨tv, ov, nv, ev, hp⟩ := h.ex
    have c5 := hp.obj.cell (i := 5) rfl
    refine ev_of (fun m => hX.no _ _ m (by decide)) Tryd.func13 rfl rfl ?_
    refine wc_seq (wc_region (wa rfl rfl (wo_nil (thenW_n (wc_seq (wc_seq (wc_region (wm rfl rfl (wk rfl rfl rfl ?_)))))))))
    refine wf rfl rfl ?_
    refine wo_m rfl (mv_load rfl rfl (by assumption)) rfl rfl ?_
    refine wo_n rfl (nv_eqlT rfl rfl rfl (by first | assumption | decide | omega)) rfl rfl (wo_nil (thenW_n (wc_true rfl (wc_region (wm rfl rfl ?_)))))
    refine wo_n rfl (nv_mkI rfl rfl) rfl rfl ?_
    refine wo_call rfl rfl (by kernel_rfl) (hf) rfl rfl ?_
    obtain ⟨aN, aO, r1, r2, r3⟩ := pf
    obtain ⟨tv2, ov2, nv2, t2, v2, hp2⟩ := r1.hasErr hz
    have c4 := hp2.obj.cell (i := 4) rfl
    refine wo_nil (thenW_n (wc_seq (wc_seq (wc_region (wm rfl rfl (wk rfl rfl rfl (wf rfl rfl ?_)))))))
    refine wo_m rfl (mv_load rfl rfl (by assumption)) rfl rfl ?_
    refine wo_n rfl (nv_neqI rfl rfl rfl) rfl rfl (wo_nil (thenW_n (wc_true rfl (wc_seq (wc_region (wa rfl rfl (wo_nil (thenW_n (wc_ret ?_)))))))))
    refine thenW_r ?_
    refine endW_ret rfl rfl ?_
    exact ⟨rfl, ⟨aN, aO, r1, r2, r3⟩⟩
  · have hpre : pre E P = P := by unfold pre; rw [if_neg hd]
    rw [hpre] at hr
    cases hE : P.err with
    | some z =>
      rw [hE] at hr
      cases hr
      obtain ⟨tv2, ov2, nv2, t2, v2, hp2⟩ := h.hasErr hE
      have c4 := hp2.obj.cell (i := 4) rfl
      have c5 := hp2.obj.cell (i := 5) rfl
      refine ev_of (fun m => hX.no _ _ m (by decide)) Tryd.func13 rfl rfl ?_
      refine wc_seq (wc_region (wa rfl rfl (wo_nil (thenW_n (wc_seq (wc_seq (wc_region (wm rfl rfl (wk rfl rfl rfl ?_)))))))))
      refine wf rfl rfl ?_
      refine wo_m rfl (mv_load rfl rfl (by assumption)) rfl rfl ?_
      refine wo_n rfl (nv_eqlF rfl rfl rfl (by first | assumption | decide | omega)) rfl rfl (wo_nil (thenW_n (wc_false rfl (wc_skip (thenW_n (wc_seq (wc_seq (wc_region (wm rfl rfl ?_)))))))))
      refine wk rfl rfl rfl (wf rfl rfl ?_)
      refine wo_m rfl (mv_load rfl rfl (by assumption)) rfl rfl ?_
      refine wo_n rfl (nv_neqI rfl rfl rfl) rfl rfl (wo_nil (thenW_n (wc_true rfl (wc_seq (wc_region (wa rfl rfl (wo_nil (thenW_n (wc_ret ?_)))))))))
      refine thenW_r ?_
      refine endW_ret rfl rfl ?_
      exact ⟨rfl, .refl h⟩
    | none =>
      rw [hE] at hr
      obtain ⟨a, A, h1, hr⟩ := bindR_some hr
      cases hr
      have h1' : run E n .expr { P with deep := P.deep + 1 } = some (v, A) := by rw [← h1, hE]
      obtain ⟨tv, ov, nv, hp⟩ := h.noErr hE
      have c4 := hp.obj.cell (i := 4) rfl
      have c5 := hp.obj.cell (i := 5) rfl
      have q0 := hp.obj
      have hde : A.deep = P.deep + 1 := (run_le _ _ _ _ _ h1).1
      refine ev_of (fun m => hX.no _ _ m (by decide)) Tryd.func13 rfl rfl ?_
      refine wc_seq (wc_region (wa rfl rfl (wo_nil (thenW_n (wc_seq (wc_seq (wc_region (wm rfl rfl (wk rfl rfl rfl ?_)))))))))
      refine wf rfl rfl ?_
      refine wo_m rfl (mv_load rfl rfl (by assumption)) rfl rfl ?_
      refine wo_n rfl (nv_eqlF rfl rfl rfl (by first | assumption | decide | omega)) rfl rfl (wo_nil (thenW_n (wc_false rfl (wc_skip (thenW_n (wc_seq (wc_seq (wc_region (wm rfl rfl ?_)))))))))
      refine wk rfl rfl rfl (wf rfl rfl ?_)
      refine wo_m rfl (mv_load rfl rfl (by assumption)) rfl rfl ?_
      refine wo_n rfl (nv_neqN rfl rfl rfl rfl) rfl rfl (wo_nil (thenW_n (wc_false rfl (wc_skip (thenW_n (wc_seq (wc_region (wm rfl rfl (wk rfl rfl rfl ?_)))))))))
      refine wf rfl rfl ?_
      refine wo_m rfl (mv_load rfl rfl (by assumption)) rfl rfl ?_
      refine wo_n rfl (nv_add rfl rfl rfl rfl (by first | decide | omega) (by first | decide | omega)) rfl rfl ?_
      refine wk rfl rfl rfl (wf rfl rfl ?_)
      refine wo_store rfl rfl rfl rfl (by assumption) rfl rfl (Nat.le_of_ble_eq_true rfl) rfl ?_
      intro m1 o1 f1 n1
      have A1 := setDeep h hp (d := P.deep + 1) (by omega) (by omega) o1 f1
      obtain ⟨m2', h2, A2⟩ := A1.step fun _ _ r => hS.expr r h1'
      refine wo_nil (thenW_n (wc_seq (wc_region (wm rfl rfl ?_))))
      refine wo_call rfl rfl (by kernel_rfl) (h2) rfl rfl ?_
      obtain ⟨aN, aO, r1, r2, r3⟩ := A2
      obtain ⟨tv2, ov2, nv2, ev2, hp2⟩ := r1.ex
      have c6 := hp2.obj.cell (i := 5) rfl
      have q1 := hp2.obj
      refine wa rfl rfl (wo_nil (thenW_n (wc_seq (wc_region (wm rfl rfl (wk rfl rfl rfl (wf rfl rfl ?_)))))))
      refine wo_m rfl (mv_load rfl rfl (by assumption)) rfl rfl ?_
      refine wo_n rfl (nv_sub rfl rfl rfl rfl (by first | decide | omega) (by first | decide | omega)) rfl rfl ?_
      refine wk rfl rfl rfl (wf rfl rfl ?_)
      refine wo_store rfl rfl rfl rfl (by assumption) rfl rfl (Nat.le_of_ble_eq_true rfl) rfl ?_
      intro m2 o2 f2 n2
      skip
      refine wo_nil (thenW_n (wc_seq (wc_region (wm rfl rfl (wa rfl rfl (wo_nil (thenW_n (wc_ret ?_))))))))
      refine endW_ret rfl rfl ?_
      refine ⟨rfl, .after r2 r3 ?_⟩
      exact setDeep r1 hp2 (d := A.deep - 1) (by omega) (by omega) (m1 := m2) o2 f2
end
end Go.Proofs.YtppcjlplihiiiaaDoor.Sy

namespace Go.Proofs.YtppcjlplihiiiaaDoor.Sy
open Go Go.Ev Go.Ev.Pm
set_option linter.unusedVariables false
set_option linter.unusedSimpArgs false
set_option linter.unusedSectionVars false
section
variable {m m' : Mem} {E : Int} {pb : Nat} {oN oO : Nat → Prop} {P P' : PS} {xb : XB} {ext : CallF} (hX : XH ext) {n : Nat} (hS : SpecN xb ext E pb n) {v : Int} {Q : PS}
theorem put_eq {x : Nd} {R : PS} (h : some (put E x R) = some (v, Q)) : v = (put E x R).1 ∧ Q = (put E x R).2 := by rw [Option.some.inj h]; exact ⟨rfl, rfl⟩
abbrev W0 (m : Mem) (E : Int) (pb : Nat) (oN oO : Nat → Prop) (g : Nat) (x : Nd) (m' : Mem) (P' : PS) : Prop := Wx m E pb oN oO 38 g (ndC x) m' P'
include hX hS
set_option maxHeartbeats 2000000 in
theorem expr_fun (h : Rep m E pb oN oO P) (hs : is P kfun = true) {a : Int} {A : PS} (h1 : run E n .inner (must E karrow (name E (drop1 P)).2) = some (a, A)) : ∃ m', Ev Tryd.prog xb ext 23 [.ptr pb 0] m (.int .i64 (put E { k := 3, a := a, x := (name E (drop1 P)).1, at_ := here E P } A).1) m' ∧ Post m E pb oN oO m' (put E { k := 3, a := a, x := (name E (drop1 P)).1, at_ := here E P } A).2 := by
  refine ev_to ?_
  have hh := here_spec (xb := xb) hX.no h
  refine ev_of (fun m => hX.no _ _ m (by decide)) Tryd.func23 rfl rfl ?_
  refine wc_seq (wc_region (wa rfl rfl (wo_nil (thenW_n (wc_seq (wc_region (wm rfl rfl ?_)))))))
  refine wo_call rfl rfl (by kernel_rfl) (hh) rfl rfl ?_
  refine wo_n rfl (nv_buildS rfl rfl rfl) rfl rfl ?_
  refine wo_alloc rfl rfl rfl rfl ?_
  intro g1 m1 o1 f1 l1
  have w1 := Wx.start (.refl h) o1 f1 l1
  refine wo_store rfl rfl rfl rfl (by assumption) rfl rfl (Nat.le_of_ble_eq_true rfl) rfl ?_
  intro m2 o2 f2 n2
  have w2 : W0 m E pb oN oO g1 { at_ := here E P } m2 P := w1.store o2 f2
  refine wo_nil (thenW_n (wc_seq (wc_block (wc_seq (wc_region (wm rfl rfl ?_))))))
  obtain ⟨m3, h3, w3, l3⟩ := w2.call fun _ _ r => take_true (xb := xb) hX r kfun hs
  refine wo_call rfl rfl (by kernel_rfl) (h3) rfl rfl ?_
  refine wa rfl rfl (wo_nil (thenW_n (wc_true rfl (wc_seq (wc_region (wm rfl rfl ?_))))))
  obtain ⟨m4, h4, w4, l4⟩ := w3.call fun _ _ r => name_spec (xb := xb) hX.no r
  have b4 := w4.b
  refine wo_call rfl rfl (by kernel_rfl) (h4) rfl rfl ?_
  refine wf rfl rfl ?_
  refine wo_store rfl rfl rfl rfl (by assumption) rfl rfl (Nat.le_of_ble_eq_true rfl) rfl ?_
  intro m3 o3 f3 n3
  have w5 : W0 m E pb oN oO g1 { k := 3, at_ := here E P } m3 _ := w4.store o3 f3
  refine wf rfl rfl ?_
  refine wo_store rfl rfl rfl rfl (by assumption) rfl rfl (Nat.le_of_ble_eq_true rfl) rfl ?_
  intro m4 o4 f4 n4
  have w6 : W0 m E pb oN oO g1 { k := 3, x := (name E (drop1 P)).1, at_ := here E P } m4 _ := w5.store o4 f4
  refine wo_nil (thenW_n (wc_region (wm rfl rfl ?_)))
  obtain ⟨m7, h7, w7, l7⟩ := w6.call fun _ _ r => then_spec (xb := xb) hX hS r karrow h1
  have b7 := w7.b
  refine wo_call rfl rfl (by kernel_rfl) (h7) rfl rfl ?_
  refine wf rfl rfl ?_
  refine wo_store rfl rfl rfl rfl (by assumption) rfl rfl (Nat.le_of_ble_eq_true rfl) rfl ?_
  intro m5 o5 f5 n5
  have w8 : W0 m E pb oN oO g1 { k := 3, a := a, x := (name E (drop1 P)).1, at_ := here E P } m5 _ := w7.store o5 f5
  have x8 := w8.b.rowAll (n := 10) rfl
  refine wo_nil (blockW_n (thenW_n (wc_seq (wc_region (wm rfl rfl ?_)))))
  refine wo_m rfl (mv_loadA rfl rfl (by assumption)) rfl rfl ?_
  obtain ⟨m9, h9, w9, l9⟩ := w8.call fun _ _ r => put_spec (xb := xb) hX.no r _
  refine wo_call rfl rfl (by kernel_rfl) (h9) rfl rfl ?_
  refine wa rfl rfl (wo_nil (thenW_n (wc_ret ?_)))
  refine endW_ret rfl rfl ?_
  exact ⟨rfl, w9.done⟩
set_option maxHeartbeats 2000000 in
theorem expr_let (h : Rep m E pb oN oO P) (hf : is P kfun = false) (hs : is P klet = true) (hr : is (drop1 P) krec = false) {a b : Int} {A B : PS} (h1 : run E n .inner (must E kset (name E (drop1 P)).2) = some (a, A)) (h2 : run E n .inner (must E kin A) = some (b, B)) : ∃ m', Ev Tryd.prog xb ext 23 [.ptr pb 0] m (.int .i64 (put E { k := 5, a := a, b := b, x := (name E (drop1 P)).1, at_ := here E P } B).1) m' ∧ Post m E pb oN oO m' (put E { k := 5, a := a, b := b, x := (name E (drop1 P)).1, at_ := here E P } B).2 := by
  refine ev_to ?_
  have hh := here_spec (xb := xb) hX.no h
  refine ev_of (fun m => hX.no _ _ m (by decide)) Tryd.func23 rfl rfl ?_
  refine wc_seq (wc_region (wa rfl rfl (wo_nil (thenW_n (wc_seq (wc_region (wm rfl rfl ?_)))))))
  refine wo_call rfl rfl (by kernel_rfl) (hh) rfl rfl ?_
  refine wo_n rfl (nv_buildS rfl rfl rfl) rfl rfl ?_
  refine wo_alloc rfl rfl rfl rfl ?_
  intro g1 m1 o1 f1 l1
  have w1 := Wx.start (.refl h) o1 f1 l1
  refine wo_store rfl rfl rfl rfl (by assumption) rfl rfl (Nat.le_of_ble_eq_true rfl) rfl ?_
  intro m2 o2 f2 n2
  have w2 : W0 m E pb oN oO g1 { at_ := here E P } m2 P := w1.store o2 f2
  refine wo_nil (thenW_n (wc_seq (wc_block (wc_seq (wc_region (wm rfl rfl ?_))))))
  obtain ⟨m3, h3, w3, l3⟩ := w2.call fun _ _ r => take_false (xb := xb) hX r kfun hf
  refine wo_call rfl rfl (by kernel_rfl) (h3) rfl rfl ?_
  refine wa rfl rfl (wo_nil (thenW_n (wc_false rfl (wc_seq (wc_region (wm rfl rfl ?_))))))
  obtain ⟨m3', h3', w3', l3'⟩ := w3.call fun _ _ r => take_true (xb := xb) hX r klet hs
  have b3 := w3'.b
  refine wo_call rfl rfl (by kernel_rfl) (h3') rfl rfl ?_
  refine wa rfl rfl (wo_nil (thenW_n (wc_true rfl (wc_seq (wc_region (wf rfl rfl ?_))))))
  refine wo_store rfl rfl rfl rfl (by assumption) rfl rfl (Nat.le_of_ble_eq_true rfl) rfl ?_
  intro m3 o3 f3 n3
  have w4 : W0 m E pb oN oO g1 { k := 5, at_ := here E P } m3 _ := w3'.store o3 f3
  refine wo_nil (thenW_n (wc_seq (wc_seq (wc_region (wm rfl rfl ?_)))))
  obtain ⟨m5, h5, w5, l5⟩ := w4.call fun _ _ r => take_false (xb := xb) hX r krec hr
  refine wo_call rfl rfl (by kernel_rfl) (h5) rfl rfl ?_
  refine wo_nil (thenW_n (wc_false rfl (wc_skip (thenW_n (wc_seq (wc_region (wm rfl rfl ?_)))))))
  obtain ⟨m6, h6, w6, l6⟩ := w5.call fun _ _ r => name_spec (xb := xb) hX.no r
  have b6 := w6.b
  refine wo_call rfl rfl (by kernel_rfl) (h6) rfl rfl ?_
  refine wf rfl rfl ?_
  refine wo_store rfl rfl rfl rfl (by assumption) rfl rfl (Nat.le_of_ble_eq_true rfl) rfl ?_
  intro m4 o4 f4 n4
  have w7 : W0 m E pb oN oO g1 { k := 5, x := (name E (drop1 P)).1, at_ := here E P } m4 _ := w6.store o4 f4
  have c7 : m4.cell g1 0 = some (.int .i64 5) := w7.b.cell (i := 0) rfl
  refine wo_nil (thenW_n (wc_seq (wc_seq (wc_region (wf rfl rfl ?_)))))
  refine wo_m rfl (mv_load rfl rfl (by assumption)) rfl rfl ?_
  refine wo_n rfl (nv_eqlF rfl rfl rfl (by first | assumption | decide | omega)) rfl rfl (wo_nil (thenW_n (wc_false rfl (wc_skip (thenW_n (wc_seq (wc_region (wm rfl rfl ?_))))))))
  obtain ⟨m8, h8, w8, l8⟩ := w7.call fun _ _ r => then_spec (xb := xb) hX hS r kset h1
  have b8 := w8.b
  refine wo_call rfl rfl (by kernel_rfl) (h8) rfl rfl ?_
  refine wf rfl rfl ?_
  refine wo_store rfl rfl rfl rfl (by assumption) rfl rfl (Nat.le_of_ble_eq_true rfl) rfl ?_
  intro m5 o5 f5 n5
  have w9 : W0 m E pb oN oO g1 { k := 5, a := a, x := (name E (drop1 P)).1, at_ := here E P } m5 _ := w8.store o5 f5
  refine wo_nil (thenW_n (wc_region (wm rfl rfl ?_)))
  obtain ⟨m10, h10, w10, l10⟩ := w9.call fun _ _ r => then_spec (xb := xb) hX hS r kin h2
  have b10 := w10.b
  refine wo_call rfl rfl (by kernel_rfl) (h10) rfl rfl ?_
  refine wf rfl rfl ?_
  refine wo_store rfl rfl rfl rfl (by assumption) rfl rfl (Nat.le_of_ble_eq_true rfl) rfl ?_
  intro m6 o6 f6 n6
  have w11 : W0 m E pb oN oO g1 { k := 5, a := a, b := b, x := (name E (drop1 P)).1, at_ := here E P } m6 _ := w10.store o6 f6
  have x11 := w11.b.rowAll (n := 10) rfl
  refine wo_nil (blockW_n (thenW_n (wc_seq (wc_region (wm rfl rfl ?_)))))
  refine wo_m rfl (mv_loadA rfl rfl (by assumption)) rfl rfl ?_
  obtain ⟨m12, h12, w12, l12⟩ := w11.call fun _ _ r => put_spec (xb := xb) hX.no r _
  refine wo_call rfl rfl (by kernel_rfl) (h12) rfl rfl ?_
  refine wa rfl rfl (wo_nil (thenW_n (wc_ret ?_)))
  refine endW_ret rfl rfl ?_
  exact ⟨rfl, w12.done⟩
set_option maxHeartbeats 2000000 in
theorem expr_rec (h : Rep m E pb oN oO P) (hf : is P kfun = false) (hs : is P klet = true) (hr : is (drop1 P) krec = true) {a b : Int} {A B : PS} (h1 : run E n .inner (must E kset (name E (name E (drop1 (drop1 P))).2).2) = some (a, A)) (h2 : run E n .inner (must E kin A) = some (b, B)) : ∃ m', Ev Tryd.prog xb ext 23 [.ptr pb 0] m (.int .i64 (put E { k := 6, a := a, b := b, x := (name E (drop1 (drop1 P))).1, y := (name E (name E (drop1 (drop1 P))).2).1, at_ := here E P } B).1) m' ∧ Post m E pb oN oO m' (put E { k := 6, a := a, b := b, x := (name E (drop1 (drop1 P))).1, y := (name E (name E (drop1 (drop1 P))).2).1, at_ := here E P } B).2 := by
  refine ev_to ?_
  have hh := here_spec (xb := xb) hX.no h
  refine ev_of (fun m => hX.no _ _ m (by decide)) Tryd.func23 rfl rfl ?_
  refine wc_seq (wc_region (wa rfl rfl (wo_nil (thenW_n (wc_seq (wc_region (wm rfl rfl ?_)))))))
  refine wo_call rfl rfl (by kernel_rfl) (hh) rfl rfl ?_
  refine wo_n rfl (nv_buildS rfl rfl rfl) rfl rfl ?_
  refine wo_alloc rfl rfl rfl rfl ?_
  intro g1 m1 o1 f1 l1
  have w1 := Wx.start (.refl h) o1 f1 l1
  refine wo_store rfl rfl rfl rfl (by assumption) rfl rfl (Nat.le_of_ble_eq_true rfl) rfl ?_
  intro m2 o2 f2 n2
  have w2 : W0 m E pb oN oO g1 { at_ := here E P } m2 P := w1.store o2 f2
  refine wo_nil (thenW_n (wc_seq (wc_block (wc_seq (wc_region (wm rfl rfl ?_))))))
  obtain ⟨m3, h3, w3, l3⟩ := w2.call fun _ _ r => take_false (xb := xb) hX r kfun hf
  refine wo_call rfl rfl (by kernel_rfl) (h3) rfl rfl ?_
  refine wa rfl rfl (wo_nil (thenW_n (wc_false rfl (wc_seq (wc_region (wm rfl rfl ?_))))))
  obtain ⟨m3', h3', w3', l3'⟩ := w3.call fun _ _ r => take_true (xb := xb) hX r klet hs
  have b3 := w3'.b
  refine wo_call rfl rfl (by kernel_rfl) (h3') rfl rfl ?_
  refine wa rfl rfl (wo_nil (thenW_n (wc_true rfl (wc_seq (wc_region (wf rfl rfl ?_))))))
  refine wo_store rfl rfl rfl rfl (by assumption) rfl rfl (Nat.le_of_ble_eq_true rfl) rfl ?_
  intro m3 o3 f3 n3
  have w4 : W0 m E pb oN oO g1 { k := 5, at_ := here E P } m3 _ := w3'.store o3 f3
  refine wo_nil (thenW_n (wc_seq (wc_seq (wc_region (wm rfl rfl ?_)))))
  obtain ⟨m5, h5, w5, l5⟩ := w4.call fun _ _ r => take_true (xb := xb) hX r krec hr
  have b5 := w5.b
  refine wo_call rfl rfl (by kernel_rfl) (h5) rfl rfl ?_
  refine wo_nil (thenW_n (wc_true rfl (wc_region (wf rfl rfl ?_))))
  refine wo_store rfl rfl rfl rfl (by assumption) rfl rfl (Nat.le_of_ble_eq_true rfl) rfl ?_
  intro m4 o4 f4 n4
  have w5' : W0 m E pb oN oO g1 { k := 6, at_ := here E P } m4 _ := w5.store o4 f4
  refine wo_nil (thenW_n (wc_seq (wc_region (wm rfl rfl ?_))))
  obtain ⟨m6, h6, w6, l6⟩ := w5'.call fun _ _ r => name_spec (xb := xb) hX.no r
  have b6 := w6.b
  refine wo_call rfl rfl (by kernel_rfl) (h6) rfl rfl ?_
  refine wf rfl rfl ?_
  refine wo_store rfl rfl rfl rfl (by assumption) rfl rfl (Nat.le_of_ble_eq_true rfl) rfl ?_
  intro m5 o5 f5 n5
  have w7 : W0 m E pb oN oO g1 { k := 6, x := (name E (drop1 (drop1 P))).1, at_ := here E P } m5 _ := w6.store o5 f5
  have c7 : m5.cell g1 0 = some (.int .i64 6) := w7.b.cell (i := 0) rfl
  refine wo_nil (thenW_n (wc_seq (wc_seq (wc_region (wf rfl rfl ?_)))))
  refine wo_m rfl (mv_load rfl rfl (by assumption)) rfl rfl ?_
  refine wo_n rfl (nv_eqlT rfl rfl rfl (by first | assumption | decide | omega)) rfl rfl (wo_nil (thenW_n (wc_true rfl (wc_region (wm rfl rfl ?_)))))
  obtain ⟨m7', h7', w7', l7'⟩ := w7.call fun _ _ r => name_spec (xb := xb) hX.no r
  have b7 := w7'.b
  refine wo_call rfl rfl (by kernel_rfl) (h7') rfl rfl ?_
  refine wf rfl rfl ?_
  refine wo_store rfl rfl rfl rfl (by assumption) rfl rfl (Nat.le_of_ble_eq_true rfl) rfl ?_
  intro m6 o6 f6 n6
  have w7'' : W0 m E pb oN oO g1 { k := 6, x := (name E (drop1 (drop1 P))).1, y := (name E (name E (drop1 (drop1 P))).2).1, at_ := here E P } m6 _ := w7'.store o6 f6
  refine wo_nil (thenW_n (wc_seq (wc_region (wm rfl rfl ?_))))
  obtain ⟨m8, h8, w8, l8⟩ := w7''.call fun _ _ r => then_spec (xb := xb) hX hS r kset h1
  have b8 := w8.b
  refine wo_call rfl rfl (by kernel_rfl) (h8) rfl rfl ?_
  refine wf rfl rfl ?_
  refine wo_store rfl rfl rfl rfl (by assumption) rfl rfl (Nat.le_of_ble_eq_true rfl) rfl ?_
  intro m7 o7 f7 n7
  have w9 : W0 m E pb oN oO g1 { k := 6, a := a, x := (name E (drop1 (drop1 P))).1, y := (name E (name E (drop1 (drop1 P))).2).1, at_ := here E P } m7 _ := w8.store o7 f7
  refine wo_nil (thenW_n (wc_region (wm rfl rfl ?_)))
  obtain ⟨m10, h10, w10, l10⟩ := w9.call fun _ _ r => then_spec (xb := xb) hX hS r kin h2
  have b10 := w10.b
  refine wo_call rfl rfl (by kernel_rfl) (h10) rfl rfl ?_
  refine wf rfl rfl ?_
  refine wo_store rfl rfl rfl rfl (by assumption) rfl rfl (Nat.le_of_ble_eq_true rfl) rfl ?_
  intro m8 o8 f8 n8
  have w11 : W0 m E pb oN oO g1 { k := 6, a := a, b := b, x := (name E (drop1 (drop1 P))).1, y := (name E (name E (drop1 (drop1 P))).2).1, at_ := here E P } m8 _ := w10.store o8 f8
  have x11 := w11.b.rowAll (n := 10) rfl
  refine wo_nil (blockW_n (thenW_n (wc_seq (wc_region (wm rfl rfl ?_)))))
  refine wo_m rfl (mv_loadA rfl rfl (by assumption)) rfl rfl ?_
  obtain ⟨m12, h12, w12, l12⟩ := w11.call fun _ _ r => put_spec (xb := xb) hX.no r _
  refine wo_call rfl rfl (by kernel_rfl) (h12) rfl rfl ?_
  refine wa rfl rfl (wo_nil (thenW_n (wc_ret ?_)))
  refine endW_ret rfl rfl ?_
  exact ⟨rfl, w12.done⟩
set_option maxHeartbeats 2000000 in
theorem expr_if (h : Rep m E pb oN oO P) (hf : is P kfun = false) (hs : is P klet = false) (hi : is P kif = true) {a b c : Int} {A B C : PS} (h1 : run E n .inner (drop1 P) = some (a, A)) (h2 : run E n .inner (must E kthen A) = some (b, B)) (h3 : run E n .inner (must E kelse B) = some (c, C)) : ∃ m', Ev Tryd.prog xb ext 23 [.ptr pb 0] m (.int .i64 (put E { k := 7, a := a, b := b, c := c, at_ := here E P } C).1) m' ∧ Post m E pb oN oO m' (put E { k := 7, a := a, b := b, c := c, at_ := here E P } C).2 := by
  refine ev_to ?_
  have hh := here_spec (xb := xb) hX.no h
  refine ev_of (fun m => hX.no _ _ m (by decide)) Tryd.func23 rfl rfl ?_
  refine wc_seq (wc_region (wa rfl rfl (wo_nil (thenW_n (wc_seq (wc_region (wm rfl rfl ?_)))))))
  refine wo_call rfl rfl (by kernel_rfl) (hh) rfl rfl ?_
  refine wo_n rfl (nv_buildS rfl rfl rfl) rfl rfl ?_
  refine wo_alloc rfl rfl rfl rfl ?_
  intro g1 m1 o1 f1 l1
  have w1 := Wx.start (.refl h) o1 f1 l1
  refine wo_store rfl rfl rfl rfl (by assumption) rfl rfl (Nat.le_of_ble_eq_true rfl) rfl ?_
  intro m2 o2 f2 n2
  have w2 : W0 m E pb oN oO g1 { at_ := here E P } m2 P := w1.store o2 f2
  refine wo_nil (thenW_n (wc_seq (wc_block (wc_seq (wc_region (wm rfl rfl ?_))))))
  obtain ⟨n3, k3, w3, l3⟩ := w2.call fun _ _ r => take_false (xb := xb) hX r kfun hf
  refine wo_call rfl rfl (by kernel_rfl) (k3) rfl rfl ?_
  refine wa rfl rfl (wo_nil (thenW_n (wc_false rfl (wc_seq (wc_region (wm rfl rfl ?_))))))
  obtain ⟨n4, k4, w4, l4⟩ := w3.call fun _ _ r => take_false (xb := xb) hX r klet hs
  refine wo_call rfl rfl (by kernel_rfl) (k4) rfl rfl ?_
  refine wa rfl rfl (wo_nil (thenW_n (wc_false rfl (wc_seq (wc_region (wm rfl rfl ?_))))))
  obtain ⟨n5, k5, w5, l5⟩ := w4.call fun _ _ r => take_true (xb := xb) hX r kif hi
  refine wo_call rfl rfl (by kernel_rfl) (k5) rfl rfl ?_
  refine wa rfl rfl (wo_nil (thenW_n (wc_true rfl (wc_seq (wc_region (wm rfl rfl ?_))))))
  obtain ⟨n6, k6, w6, l6⟩ := w5.call fun _ _ r => hS.inner r h1
  have b6 := w6.b
  refine wo_call rfl rfl (by kernel_rfl) (k6) rfl rfl ?_
  refine wf rfl rfl ?_
  refine wo_store rfl rfl rfl rfl (by assumption) rfl rfl (Nat.le_of_ble_eq_true rfl) rfl ?_
  intro m3 o3 f3 n3
  have w7 : W0 m E pb oN oO g1 { k := 7, at_ := here E P } m3 _ := w6.store o3 f3
  refine wf rfl rfl ?_
  refine wo_store rfl rfl rfl rfl (by assumption) rfl rfl (Nat.le_of_ble_eq_true rfl) rfl ?_
  intro m4 o4 f4 n4
  have w8 : W0 m E pb oN oO g1 { k := 7, a := a, at_ := here E P } m4 _ := w7.store o4 f4
  refine wo_nil (thenW_n (wc_seq (wc_region (wm rfl rfl ?_))))
  obtain ⟨n9, k9, w9, l9⟩ := w8.call fun _ _ r => then_spec (xb := xb) hX hS r kthen h2
  have b9 := w9.b
  refine wo_call rfl rfl (by kernel_rfl) (k9) rfl rfl ?_
  refine wf rfl rfl ?_
  refine wo_store rfl rfl rfl rfl (by assumption) rfl rfl (Nat.le_of_ble_eq_true rfl) rfl ?_
  intro m5 o5 f5 n5
  have w10 : W0 m E pb oN oO g1 { k := 7, a := a, b := b, at_ := here E P } m5 _ := w9.store o5 f5
  refine wo_nil (thenW_n (wc_region (wm rfl rfl ?_)))
  obtain ⟨n11, k11, w11, l11⟩ := w10.call fun _ _ r => then_spec (xb := xb) hX hS r kelse h3
  have b11 := w11.b
  refine wo_call rfl rfl (by kernel_rfl) (k11) rfl rfl ?_
  refine wf rfl rfl ?_
  refine wo_store rfl rfl rfl rfl (by assumption) rfl rfl (Nat.le_of_ble_eq_true rfl) rfl ?_
  intro m6 o6 f6 n6
  have w12 : W0 m E pb oN oO g1 { k := 7, a := a, b := b, c := c, at_ := here E P } m6 _ := w11.store o6 f6
  have x11 := w12.b.rowAll (n := 10) rfl
  refine wo_nil (blockW_n (thenW_n (wc_seq (wc_region (wm rfl rfl ?_)))))
  refine wo_m rfl (mv_loadA rfl rfl (by assumption)) rfl rfl ?_
  obtain ⟨n13, k13, w13, l13⟩ := w12.call fun _ _ r => put_spec (xb := xb) hX.no r _
  refine wo_call rfl rfl (by kernel_rfl) (k13) rfl rfl ?_
  refine wa rfl rfl (wo_nil (thenW_n (wc_ret ?_)))
  refine endW_ret rfl rfl ?_
  exact ⟨rfl, w13.done⟩
theorem expr_spec (h : Rep m E pb oN oO P) (hr : run E (n + 1) .expr P = some (v, Q)) : ∃ m', Ev Tryd.prog xb ext 23 [.ptr pb 0] m (.int .i64 v) m' ∧ Post m E pb oN oO m' Q := by
  simp only [run] at hr
  split at hr
  · rename_i hs
    obtain ⟨a, A, h1, hr⟩ := bindR_some hr
    obtain ⟨rfl, rfl⟩ := put_eq hr
    exact expr_fun hX hS h hs h1
  · rename_i hf
    rw [Bool.not_eq_true] at hf
    split at hr
    · rename_i hs
      split at hr
      · rename_i hc
        unfold letM at hr
        obtain ⟨a, A, h1, hr⟩ := bindR_some hr
        obtain ⟨b, B, h2, hr⟩ := bindR_some hr
        obtain ⟨rfl, rfl⟩ := put_eq hr
        exact expr_rec hX hS h hf hs hc h1 h2
      · rename_i hc
        rw [Bool.not_eq_true] at hc
        unfold letM at hr
        obtain ⟨a, A, h1, hr⟩ := bindR_some hr
        obtain ⟨b, B, h2, hr⟩ := bindR_some hr
        obtain ⟨rfl, rfl⟩ := put_eq hr
        exact expr_let hX hS h hf hs hc h1 h2
    · rename_i hs
      rw [Bool.not_eq_true] at hs
      split at hr
      · rename_i hi
        obtain ⟨a, A, h1, hr⟩ := bindR_some hr
        obtain ⟨b, B, h2, hr⟩ := bindR_some hr
        obtain ⟨c, C, h3, hr⟩ := bindR_some hr
        obtain ⟨rfl, rfl⟩ := put_eq hr
        exact expr_if hX hS h hf hs hi h1 h2 h3
      · rename_i hi
        rw [Bool.not_eq_true] at hi
        refine ev_to ?_
        have hh := here_spec (xb := xb) hX.no h
        refine ev_of (fun m => hX.no _ _ m (by decide)) Tryd.func23 rfl rfl ?_
        refine wc_seq (wc_region (wa rfl rfl (wo_nil (thenW_n (wc_seq (wc_region (wm rfl rfl ?_)))))))
        refine wo_call rfl rfl (by kernel_rfl) (hh) rfl rfl ?_
        refine wo_n rfl (nv_buildS rfl rfl rfl) rfl rfl ?_
        refine wo_alloc rfl rfl rfl rfl ?_
        intro g1 m1 o1 f1 l1
        have w1 := Wx.start (.refl h) o1 f1 l1
        refine wo_store rfl rfl rfl rfl (by assumption) rfl rfl (Nat.le_of_ble_eq_true rfl) rfl ?_
        intro m2 o2 f2 n2
        have w2 : W0 m E pb oN oO g1 { at_ := here E P } m2 P := w1.store o2 f2
        refine wo_nil (thenW_n (wc_seq (wc_block (wc_seq (wc_region (wm rfl rfl ?_))))))
        obtain ⟨n3, k3, w3, l3⟩ := w2.call fun _ _ r => take_false (xb := xb) hX r kfun hf
        refine wo_call rfl rfl (by kernel_rfl) (k3) rfl rfl ?_
        refine wa rfl rfl (wo_nil (thenW_n (wc_false rfl (wc_seq (wc_region (wm rfl rfl ?_))))))
        obtain ⟨n4, k4, w4, l4⟩ := w3.call fun _ _ r => take_false (xb := xb) hX r klet hs
        refine wo_call rfl rfl (by kernel_rfl) (k4) rfl rfl ?_
        refine wa rfl rfl (wo_nil (thenW_n (wc_false rfl (wc_seq (wc_region (wm rfl rfl ?_))))))
        obtain ⟨n5, k5, w5, l5⟩ := w4.call fun _ _ r => take_false (xb := xb) hX r kif hi
        refine wo_call rfl rfl (by kernel_rfl) (k5) rfl rfl ?_
        refine wa rfl rfl (wo_nil (thenW_n (wc_false rfl (wc_seq (wc_region (wm rfl rfl ?_))))))
        obtain ⟨n6, k6, w6, l6⟩ := w5.call fun _ _ r => hS.level (l := 0) (by omega) r hr
        refine wo_call rfl rfl (by kernel_rfl) (k6) rfl rfl ?_
        refine wa rfl rfl (wo_nil (thenW_n (wc_ret (blockW_r (thenW_r ?_)))))
        refine endW_ret rfl rfl ?_
        exact ⟨rfl, w6.done⟩
end
end Go.Proofs.YtppcjlplihiiiaaDoor.Sy

namespace Go.Proofs.YtppcjlplihiiiaaDoor.Sy
open Go Go.Ev Go.Ev.Pm
set_option linter.unusedVariables false
set_option linter.unusedSimpArgs false
set_option linter.unusedSectionVars false
section
variable {m m' : Mem} {E : Int} {pb : Nat} {oN oO : Nat → Prop} {P P' : PS} {xb : XB} {ext : CallF} (hX : XH ext) {n : Nat} {v : Int} {Q : PS}
theorem prim_le {l : Nat} {k : Int} (h : prim l P = some k) : 0 ≤ k := by
  unfold prim at h
  split at h <;> (split at h; · cases h; decide) <;> (split at h; · cases h; decide) <;> cases h
theorem primI_some {l : Nat} {k : Int} (h : prim l P = some k) : primI l P = k := by unfold primI; rw [h]; rfl
theorem primI_none {l : Nat} (h : prim l P = none) : primI l P = -1 := by unfold primI; rw [h]; rfl
include hX
set_option maxHeartbeats 2000000 in
theorem level_spec (hS : ∀ k, k ≤ n → SpecN xb ext E pb k) {l : Nat} (hl : l ≤ 3) (h : Rep m E pb oN oO P) (hr : run E (n + 1) (.level l) P = some (v, Q)) : ∃ m', Ev Tryd.prog xb ext 32 [.ptr pb 0, .int .i64 (l : Nat)] m (.int .i64 v) m' ∧ Post m E pb oN oO m' Q := by
  simp only [run] at hr
  obtain ⟨gl, ml, hlv, fl, cl⟩ := hX.lev m h.gl
  have hlv' := ev_ext (p := Tryd.prog) (xb := xb) hlv
  have A0 : Post m E pb oN oO ml P := .alloc h fl (.refl (h.alloc fl))
  refine ev_to ?_
  by_cases h3 : l = 3
  · rw [if_pos h3] at hr
    obtain ⟨m1, h1, A1⟩ := A0.step fun _ _ r => (hS n (Nat.le_refl _)).apply r hr
    refine ev_of (fun m => hX.no _ _ m (by decide)) Tryd.func32 rfl rfl ?_
    refine wc_seq (wc_region (wa rfl rfl (wo_nil (thenW_n (wc_seq (wc_seq (wc_region (wm rfl rfl ?_))))))))
    refine wo_call rfl rfl (by kernel_rfl) (hlv') rfl rfl ?_
    first
      | refine wo_n rfl (nv_lenS rfl rfl rfl) rfl rfl ?_
      | refine wo_n rfl (nv_lenN rfl rfl rfl) rfl rfl ?_
      | refine wo_n rfl (nv_lenR (by assumption) rfl rfl rfl) rfl rfl ?_
    refine wo_n rfl (nv_eqlT rfl rfl rfl (by first | assumption | decide | omega)) rfl rfl (wo_nil (thenW_n (wc_true rfl (wc_seq (wc_region (wm rfl rfl ?_))))))
    refine wo_call rfl rfl (by kernel_rfl) (h1) rfl rfl ?_
    refine wa rfl rfl (wo_nil (thenW_n (wc_ret (thenW_r ?_))))
    refine endW_ret rfl rfl ?_
    exact ⟨rfl, A1⟩
  · rw [if_neg h3] at hr
    obtain ⟨a0, A, hr0, hr⟩ := bindR_some hr
    have hl3 : l < 3 := by omega
    obtain ⟨m1, h1, A1⟩ := A0.step fun _ _ r => (hS n (Nat.le_refl _)).level (l := l + 1) (by omega) r hr0
    obtain ⟨m2, h2, A2⟩ := A1.step fun _ _ r => prim_spec (xb := xb) hX r hl3
    refine ev_of (fun m => hX.no _ _ m (by decide)) Tryd.func32 rfl rfl ?_
    refine wc_seq (wc_region (wa rfl rfl (wo_nil (thenW_n (wc_seq (wc_seq (wc_region (wm rfl rfl ?_))))))))
    refine wo_call rfl rfl (by kernel_rfl) (hlv') rfl rfl ?_
    first
      | refine wo_n rfl (nv_lenS rfl rfl rfl) rfl rfl ?_
      | refine wo_n rfl (nv_lenN rfl rfl rfl) rfl rfl ?_
      | refine wo_n rfl (nv_lenR (by assumption) rfl rfl rfl) rfl rfl ?_
    refine wo_n rfl (nv_eqlF rfl rfl rfl (by first | assumption | decide | omega)) rfl rfl (wo_nil (thenW_n (wc_false rfl (wc_skip (thenW_n (wc_seq (wc_region (wm rfl rfl (wm rfl rfl ?_)))))))))
    refine wo_n rfl (nv_add rfl rfl rfl rfl (by first | decide | omega) (by first | decide | omega)) rfl rfl ?_
    refine wo_call rfl rfl (by kernel_rfl) (h1) rfl rfl ?_
    refine wa rfl rfl (wo_nil (thenW_n (wc_seq (wc_seq (wc_region (wm rfl rfl (wm rfl rfl ?_)))))))
    refine wo_call rfl rfl (by kernel_rfl) (h2) rfl rfl ?_
    refine wa rfl rfl (wo_nil (thenW_n (wc_block ?_)))
    refine wc_loop (fun k e m' => k ≤ n ∧ ∃ a P', ELe (envL [(0, .ptr pb 0), (1, .int .i64 (l : Nat)), (5, .int .i64 a), (6, .int .i64 (primI l P'))]) e ∧ Post m E pb oN oO m' P' ∧ run E k (.more l a) P' = some (v, Q)) n ⟨Nat.le_refl _, a0, A, ?_, A2, hr⟩ ?_
    · exact .cons rfl (.cons rfl (.cons rfl (.cons rfl (.nil _))))
    rintro k e mk ⟨hk, a, P', he, Ak, hrk⟩
    refine Wc.weak ?_ he
    clear he
    cases k with
    | zero => simp [run] at hrk
    | succ k =>
    simp only [run] at hrk
    cases hp : prim l P' with
    | none =>
      rw [hp] at hrk
      cases hrk
      have hpi := primI_none hp
      refine wc_seq (wc_seq (wc_region (wm rfl rfl (wo_n rfl (nv_geqF rfl rfl rfl (by first | assumption | decide | omega)) rfl rfl (wo_nil (thenW_n (wc_false rfl (wc_exit (thenW_x ?_)))))))))
      refine blockW_x (thenW_n (wc_seq (wc_region (wm rfl rfl (wa rfl rfl (wo_nil (thenW_n (wc_ret ?_))))))))
      refine endW_ret rfl rfl ?_
      exact ⟨rfl, Ak⟩
    | some kk =>
      rw [hp] at hrk
      obtain ⟨b, B, hb, hrk⟩ := bindR_some hrk
      have hpi := primI_some hp
      have hge := prim_le hp
      obtain ⟨t, r, hT⟩ : ∃ t r, P'.toks = t :: r := by
        cases hc : P'.toks with
        | nil => exact absurd hc (prim_toks hp)
        | cons t r => exact ⟨t, r, rfl⟩
      obtain ⟨aN, aO, r0, f0, s0⟩ := Ak
      have hh := here_spec (xb := xb) hX.no r0
      have A' : Post m E pb oN oO mk P' := ⟨aN, aO, r0, f0, s0⟩
      by_cases hl0 : l = 0
      · rw [if_pos hl0] at hrk
        obtain ⟨rfl, rfl⟩ := put_eq hrk
        refine wc_seq (wc_seq (wc_region (wm rfl rfl (wo_n rfl (nv_geqT rfl rfl rfl (by first | assumption | decide | omega)) rfl rfl (wo_nil (thenW_n (wc_true rfl (wc_skip (thenW_n ?_)))))))))
        refine wc_seq (wc_block (wc_seq (wc_region (wm rfl rfl (wm rfl rfl (wm rfl rfl ?_))))))
        refine wo_call rfl rfl (by kernel_rfl) (hh) rfl rfl ?_
        refine wo_n rfl (nv_buildS rfl rfl rfl) rfl rfl ?_
        refine wo_alloc rfl rfl rfl rfl ?_
        intro g1 m1 o1 f1 l1
        have w1 := Wx.start A' o1 f1 l1
        refine wo_store rfl rfl rfl rfl (by assumption) rfl rfl (Nat.le_of_ble_eq_true rfl) rfl ?_
        intro m2 o2 f2 n2
        have w2 : W0 m E pb oN oO g1 { k := 8, num := primI l P', a := a, at_ := here E P' } m2 P' := w1.store o2 f2
        obtain ⟨bN, bO, r2, hn2, s2⟩ := w2.p
        obtain ⟨tb, toff, tn, tc, tov, tnv, tev, hp2, hn1, hn2'⟩ := r2.first hT
        have c2 := hp2.obj.cell (i := 0) rfl
        have q2 := hp2.obj
        refine wo_nil (thenW_n (wc_seq (wc_region (wm rfl rfl (wm rfl rfl (wk rfl rfl rfl (wf rfl rfl ?_)))))))
        refine wo_m rfl (mv_load rfl rfl (by assumption)) rfl rfl ?_
        refine wo_n rfl (nv_slice rfl rfl rfl rfl (slice_from (l := 1) (by first | assumption | omega) (by first | assumption | omega))) rfl rfl (wk rfl rfl rfl (wf rfl rfl ?_))
        refine wo_store rfl rfl rfl rfl (by assumption) rfl rfl (Nat.le_of_ble_eq_true rfl) rfl ?_
        intro m3 o3 f3 n3
        have w3 : W0 m E pb oN oO g1 { k := 8, num := primI l P', a := a, at_ := here E P' } m3 (drop1 P') := w2.to hn2 s2 (dropR r2 hp2 hT o3 f3)
        obtain ⟨m4', h4, w4, l4⟩ := w3.call fun _ _ r => (hS k (by omega)).level (l := l + 1) (by omega) r hb
        have b4 := w4.b
        refine wo_nil (thenW_n (wc_seq (wc_region (wm rfl rfl (wm rfl rfl ?_)))))
        refine wo_n rfl (nv_add rfl rfl rfl rfl (by first | decide | omega) (by first | decide | omega)) rfl rfl ?_
        refine wo_call rfl rfl (by kernel_rfl) (h4) rfl rfl ?_
        refine wf rfl rfl ?_
        refine wo_store rfl rfl rfl rfl (by assumption) rfl rfl (Nat.le_of_ble_eq_true rfl) rfl ?_
        intro m4 o4 f4 n4
        have w5 : W0 m E pb oN oO g1 { k := 8, num := primI l P', a := a, b := b, at_ := here E P' } m4 B := w4.store o4 f4
        have x5 := w5.b.rowAll (n := 10) rfl
        obtain ⟨m6', h6, w6, l6⟩ := w5.call fun _ _ r => put_spec (xb := xb) hX.no r { k := 8, num := primI l P', a := a, b := b, at_ := here E P' }
        refine wo_nil (thenW_n (wc_seq (wc_region (wm rfl rfl ?_))))
        refine wo_m rfl (mv_loadA rfl rfl (by assumption)) rfl rfl ?_
        refine wo_call rfl rfl (by kernel_rfl) (h6) rfl rfl ?_
        refine wa rfl rfl (wo_nil (thenW_n (wc_seq (wc_region (wm rfl rfl (wo_n rfl (nv_eqlT rfl rfl rfl (by first | assumption | decide | omega)) rfl rfl (wo_nil (thenW_n (wc_true rfl ?_)))))))))
        refine wc_exit ?_
        refine blockW_y rfl ?_
        refine thenW_x ?_
        refine blockW_x (thenW_n (wc_seq (wc_region (wm rfl rfl (wa rfl rfl (wo_nil (thenW_n (wc_ret ?_))))))))
        refine endW_ret rfl rfl ?_
        rw [hpi] at w6
        exact ⟨by first | rfl | rw [hpi], w6.done⟩
      · rw [if_neg hl0] at hrk
        refine wc_seq (wc_seq (wc_region (wm rfl rfl (wo_n rfl (nv_geqT rfl rfl rfl (by first | assumption | decide | omega)) rfl rfl (wo_nil (thenW_n (wc_true rfl (wc_skip (thenW_n ?_)))))))))
        refine wc_seq (wc_block (wc_seq (wc_region (wm rfl rfl (wm rfl rfl (wm rfl rfl ?_))))))
        refine wo_call rfl rfl (by kernel_rfl) (hh) rfl rfl ?_
        refine wo_n rfl (nv_buildS rfl rfl rfl) rfl rfl ?_
        refine wo_alloc rfl rfl rfl rfl ?_
        intro g1 m1 o1 f1 l1
        have w1 := Wx.start A' o1 f1 l1
        refine wo_store rfl rfl rfl rfl (by assumption) rfl rfl (Nat.le_of_ble_eq_true rfl) rfl ?_
        intro m2 o2 f2 n2
        have w2 : W0 m E pb oN oO g1 { k := 8, num := primI l P', a := a, at_ := here E P' } m2 P' := w1.store o2 f2
        obtain ⟨bN, bO, r2, hn2, s2⟩ := w2.p
        obtain ⟨tb, toff, tn, tc, tov, tnv, tev, hp2, hn1, hn2'⟩ := r2.first hT
        have c2 := hp2.obj.cell (i := 0) rfl
        have q2 := hp2.obj
        refine wo_nil (thenW_n (wc_seq (wc_region (wm rfl rfl (wm rfl rfl (wk rfl rfl rfl (wf rfl rfl ?_)))))))
        refine wo_m rfl (mv_load rfl rfl (by assumption)) rfl rfl ?_
        refine wo_n rfl (nv_slice rfl rfl rfl rfl (slice_from (l := 1) (by first | assumption | omega) (by first | assumption | omega))) rfl rfl (wk rfl rfl rfl (wf rfl rfl ?_))
        refine wo_store rfl rfl rfl rfl (by assumption) rfl rfl (Nat.le_of_ble_eq_true rfl) rfl ?_
        intro m3 o3 f3 n3
        have w3 : W0 m E pb oN oO g1 { k := 8, num := primI l P', a := a, at_ := here E P' } m3 (drop1 P') := w2.to hn2 s2 (dropR r2 hp2 hT o3 f3)
        obtain ⟨m4', h4, w4, l4⟩ := w3.call fun _ _ r => (hS k (by omega)).level (l := l + 1) (by omega) r hb
        have b4 := w4.b
        refine wo_nil (thenW_n (wc_seq (wc_region (wm rfl rfl (wm rfl rfl ?_)))))
        refine wo_n rfl (nv_add rfl rfl rfl rfl (by first | decide | omega) (by first | decide | omega)) rfl rfl ?_
        refine wo_call rfl rfl (by kernel_rfl) (h4) rfl rfl ?_
        refine wf rfl rfl ?_
        refine wo_store rfl rfl rfl rfl (by assumption) rfl rfl (Nat.le_of_ble_eq_true rfl) rfl ?_
        intro m4 o4 f4 n4
        have w5 : W0 m E pb oN oO g1 { k := 8, num := primI l P', a := a, b := b, at_ := here E P' } m4 B := w4.store o4 f4
        have x5 := w5.b.rowAll (n := 10) rfl
        obtain ⟨m6', h6, w6, l6⟩ := w5.call fun _ _ r => put_spec (xb := xb) hX.no r { k := 8, num := primI l P', a := a, b := b, at_ := here E P' }
        refine wo_nil (thenW_n (wc_seq (wc_region (wm rfl rfl ?_))))
        refine wo_m rfl (mv_loadA rfl rfl (by assumption)) rfl rfl ?_
        refine wo_call rfl rfl (by kernel_rfl) (h6) rfl rfl ?_
        refine wa rfl rfl (wo_nil (thenW_n (wc_seq (wc_region (wm rfl rfl (wo_n rfl (nv_eqlF rfl rfl rfl (by first | assumption | decide | omega)) rfl rfl (wo_nil (thenW_n (wc_false rfl ?_)))))))))
        refine wc_skip (blockW_n (thenW_n (wc_region (wm rfl rfl (wm rfl rfl ?_)))))
        obtain ⟨m7', h7, A7⟩ := w6.done.step fun _ _ r => prim_spec (xb := xb) hX r hl3
        refine wo_call rfl rfl (by kernel_rfl) (h7) rfl rfl ?_
        refine wa rfl rfl (wo_nil ?_)
        rw [hpi] at A7
        refine ⟨k, Nat.lt_succ_self _, by omega, _, _, ?_, A7, hrk⟩
        try rw [hpi]
        exact .cons rfl (.cons rfl (.cons rfl (.cons rfl (.nil _))))
end
end Go.Proofs.YtppcjlplihiiiaaDoor.Sy

namespace Go.Proofs.YtppcjlplihiiiaaDoor.Sy
open Go Go.Ev Go.Ev.Pm
set_option linter.unusedVariables false
set_option linter.unusedSimpArgs false
set_option linter.unusedSectionVars false
section
variable {m m' : Mem} {E : Int} {pb : Nat} {oN oO : Nat → Prop} {P P' : PS} {xb : XB} {ext : CallF} (hX : XH ext) {n : Nat} {v : Int} {Q : PS}
include hX
set_option maxHeartbeats 2000000 in
theorem apply_spec (hS : ∀ k, k ≤ n → SpecN xb ext E pb k) (h : Rep m E pb oN oO P) (hr : run E (n + 1) .apply P = some (v, Q)) : ∃ m', Ev Tryd.prog xb ext 47 [.ptr pb 0] m (.int .i64 v) m' ∧ Post m E pb oN oO m' Q := by
  simp only [run] at hr
  have hh := here_spec (xb := xb) hX.no h
  refine ev_to ?_
  cases hs : is P kdo with
  | true =>
    rw [hs] at hr
    obtain ⟨a, A, h1, hr⟩ := bindR_some hr
    refine ev_of (fun m => hX.no _ _ m (by decide)) Tryd.func47 rfl rfl ?_
    refine wc_seq (wc_region (wa rfl rfl (wo_nil (thenW_n (wc_seq (wc_region (wm rfl rfl ?_)))))))
    refine wo_call rfl rfl (by kernel_rfl) (hh) rfl rfl ?_
    refine wo_n rfl (nv_buildS rfl rfl rfl) rfl rfl ?_
    refine wo_alloc rfl rfl rfl rfl ?_
    intro g1 m1 o1 f1 l1
    have w1 := Wx.start (.refl h) o1 f1 l1
    refine wo_store rfl rfl rfl rfl (by assumption) rfl rfl (Nat.le_of_ble_eq_true rfl) rfl ?_
    intro m2 o2 f2 n2
    have w2 : W0 m E pb oN oO g1 { at_ := here E P } m2 P := w1.store o2 f2
    refine wo_nil (thenW_n (wc_seq (wc_seq (wc_region (wm rfl rfl ?_)))))
    obtain ⟨m3, h3, w3, l3⟩ := w2.call fun _ _ r => take_true (xb := xb) hX r kdo hs
    refine wo_call rfl rfl (by kernel_rfl) (h3) rfl rfl ?_
    refine wo_nil (thenW_n (wc_true rfl (wc_seq (wc_region (wm rfl rfl ?_)))))
    obtain ⟨m4, h4, w4, l4⟩ := w3.call fun _ _ r => name_spec (xb := xb) hX.no r
    have b4 := w4.b
    refine wo_call rfl rfl (by kernel_rfl) (h4) rfl rfl ?_
    refine wf rfl rfl ?_
    refine wo_store rfl rfl rfl rfl (by assumption) rfl rfl (Nat.le_of_ble_eq_true rfl) rfl ?_
    intro m3 o3 f3 n3
    have w5 : W0 m E pb oN oO g1 { k := 9, at_ := here E P } m3 _ := w4.store o3 f3
    refine wf rfl rfl ?_
    refine wo_store rfl rfl rfl rfl (by assumption) rfl rfl (Nat.le_of_ble_eq_true rfl) rfl ?_
    intro m4 o4 f4 n4
    have w6 : W0 m E pb oN oO g1 { k := 9, nm := (name E (drop1 P)).1, at_ := here E P } m4 _ := w5.store o4 f4
    refine wo_nil (thenW_n (wc_seq (wc_region (wm rfl rfl ?_))))
    obtain ⟨m7, h7, w7, l7⟩ := w6.call fun _ _ r => (hS n (Nat.le_refl _)).atom r h1
    have b7 := w7.b
    refine wo_call rfl rfl (by kernel_rfl) (h7) rfl rfl ?_
    refine wf rfl rfl ?_
    refine wo_store rfl rfl rfl rfl (by assumption) rfl rfl (Nat.le_of_ble_eq_true rfl) rfl ?_
    intro m5 o5 f5 n5
    have w8 : W0 m E pb oN oO g1 { k := 9, nm := (name E (drop1 P)).1, a := a, at_ := here E P } m5 _ := w7.store o5 f5
    have c8 : m5.cell g1 9 = some (.int .i64 (here E P)) := w8.b.cell (i := 9) rfl
    have x8 := w8.b.rowAll (n := 10) rfl
    refine wo_nil (thenW_n ?_)
    refine wc_draw (by kernel_rfl) ?_
    refine wd_cast (l' := [0, 1, 2, 3, 4, 5, 6]) (by kernel_rfl) rfl ?_
    refine wd_n rfl rfl rfl (nv_fa rfl rfl) rfl rfl ?_
    refine wd_load rfl rfl rfl rfl (by assumption) rfl rfl ?_
    refine wd_n rfl rfl rfl (nv_move rfl rfl) rfl rfl ?_
    refine wd_loadA rfl rfl rfl rfl (by assumption) rfl rfl ?_
    obtain ⟨m9, h9, w9, l9⟩ := w8.call fun _ _ r => put_spec (xb := xb) hX.no r { k := 9, nm := (name E (drop1 P)).1, a := a, at_ := here E P }
    have b9 := w9.b
    refine wd_call1 (i1 := 1) (t1 := 3) rfl rfl rfl (by kernel_rfl) (h9) (l9) ((show m9.cell g1 (0 + 9) = some (.int .i64 (here E P)) from w9.b.cell (i := 9) rfl)) (by kernel_rfl) (by kernel_rfl) rfl rfl ?_
    refine wd_n rfl rfl rfl (nv_buildS rfl rfl rfl) rfl rfl ?_
    refine wd_store rfl rfl rfl rfl rfl (by assumption) rfl rfl (Nat.le_of_ble_eq_true rfl) (by kernel_rfl) (by kernel_rfl) rfl ?_
    intro m7 o7 f7 n7
    have w10 : W0 m E pb oN oO g1 { a := (put E { k := 9, nm := (name E (drop1 P)).1, a := a, at_ := here E P } A).1, at_ := here E P } m7 _ := w9.store o7 f7
    refine wd_nil ?_
    refine thenW_n (wc_seq (wc_block ?_))
    refine wc_loop (fun k e m' => k ≤ n ∧ ∃ k0 a b nm P', ELe (envL [(0, .ptr pb 0), (3, .ptr g1 0)]) e ∧ W0 m E pb oN oO g1 { k := k0, a := a, b := b, nm := nm, at_ := here E P } m' P' ∧ (b = 0 ∨ True) ∧ nm = ByteArray.empty ∧ run E k (.apps (here E P) a) P' = some (v, Q)) n ⟨Nat.le_refl _, _, _, 0, ByteArray.empty, _, .cons rfl (.cons rfl (.nil _)), w10, .inl rfl, rfl, hr⟩ ?_
    rintro k e mk ⟨hk, k1, a1, b1, nm, P2, he, w, _, rfl, hrk⟩
    refine Wc.weak ?_ he
    clear he
    cases k with
    | zero => simp [run] at hrk
    | succ k =>
    simp only [run] at hrk
    obtain ⟨aN, aO, r0, hn0, s0⟩ := w.p
    have hst := starts_spec (xb := xb) hX r0
    cases hs2 : starts P2 with
    | false =>
      rw [hs2] at hrk hst
      cases hrk
      have c1 : mk.cell g1 1 = some (.int .i64 v) := w.b.cell (i := 1) rfl
      refine wc_seq (wc_seq (wc_region (wm rfl rfl ?_)))
      refine wo_call rfl rfl (by kernel_rfl) (hst) rfl rfl ?_
      refine wo_nil (thenW_n (wc_false rfl (wc_exit (thenW_x ?_))))
      refine blockW_x (thenW_n (wc_seq (wc_region (wf rfl rfl ?_))))
      refine wo_m rfl (mv_load rfl rfl (by assumption)) rfl rfl ?_
      refine wa rfl rfl (wo_nil (thenW_n (wc_ret ?_)))
      refine endW_ret rfl rfl ?_
      exact ⟨rfl, w.done⟩
    | true =>
      rw [hs2] at hrk hst
      obtain ⟨b, B, hb, hrk⟩ := bindR_some hrk
      obtain ⟨n1', u1, v1, t1⟩ := w.call fun _ _ r => (hS k (by omega)).atom r hb
      have bb1 := v1.b
      refine wc_seq (wc_seq (wc_region (wm rfl rfl ?_)))
      refine wo_call rfl rfl (by kernel_rfl) (hst) rfl rfl ?_
      refine wo_nil (thenW_n (wc_true rfl (wc_skip (thenW_n (wc_block (wc_seq (wc_region (wm rfl rfl ?_))))))))
      refine wo_call rfl rfl (by kernel_rfl) (u1) rfl rfl ?_
      refine wf rfl rfl ?_
      refine wo_store rfl rfl rfl rfl (by assumption) rfl rfl (Nat.le_of_ble_eq_true rfl) rfl ?_
      intro m1 o1 f1 n1
      have v2 : W0 m E pb oN oO g1 { k := 4, a := a1, b := b1, at_ := here E P } m1 B := v1.store o1 f1
      refine wf rfl rfl ?_
      refine wo_store rfl rfl rfl rfl (by assumption) rfl rfl (Nat.le_of_ble_eq_true rfl) rfl ?_
      intro m2 o2 f2 n2
      have v3 : W0 m E pb oN oO g1 { k := 4, a := a1, b := b, at_ := here E P } m2 B := v2.store o2 f2
      have x3 := v3.b.rowAll (n := 10) rfl
      refine wo_nil (thenW_n (wc_region (wm rfl rfl ?_)))
      refine wo_m rfl (mv_loadA rfl rfl (by assumption)) rfl rfl ?_
      obtain ⟨n4', u4, v4, t4⟩ := v3.call fun _ _ r => put_spec (xb := xb) hX.no r { k := 4, a := a1, b := b, at_ := here E P }
      have bb4 := v4.b
      refine wo_call rfl rfl (by kernel_rfl) (u4) rfl rfl ?_
      refine wf rfl rfl ?_
      refine wo_store rfl rfl rfl rfl (by assumption) rfl rfl (Nat.le_of_ble_eq_true rfl) rfl ?_
      intro m3 o3 f3 n3
      have v5 : W0 m E pb oN oO g1 { k := 4, a := (put E { k := 4, a := a1, b := b, at_ := here E P } B).1, b := b, at_ := here E P } m3 _ := v4.store o3 f3
      refine wo_nil (blockW_n ?_)
      exact ⟨k, Nat.lt_succ_self _, by omega, _, _, _, _, _, .cons rfl (.cons rfl (.nil _)), v5, .inr trivial, rfl, hrk⟩
  | false =>
    rw [hs] at hr
    obtain ⟨a, A, h1, hr⟩ := bindR_some hr
    refine ev_of (fun m => hX.no _ _ m (by decide)) Tryd.func47 rfl rfl ?_
    refine wc_seq (wc_region (wa rfl rfl (wo_nil (thenW_n (wc_seq (wc_region (wm rfl rfl ?_)))))))
    refine wo_call rfl rfl (by kernel_rfl) (hh) rfl rfl ?_
    refine wo_n rfl (nv_buildS rfl rfl rfl) rfl rfl ?_
    refine wo_alloc rfl rfl rfl rfl ?_
    intro g1 m1 o1 f1 l1
    have w1 := Wx.start (.refl h) o1 f1 l1
    refine wo_store rfl rfl rfl rfl (by assumption) rfl rfl (Nat.le_of_ble_eq_true rfl) rfl ?_
    intro m2 o2 f2 n2
    have w2 : W0 m E pb oN oO g1 { at_ := here E P } m2 P := w1.store o2 f2
    refine wo_nil (thenW_n (wc_seq (wc_seq (wc_region (wm rfl rfl ?_)))))
    obtain ⟨m3, h3, w3, l3⟩ := w2.call fun _ _ r => take_false (xb := xb) hX r kdo hs
    refine wo_call rfl rfl (by kernel_rfl) (h3) rfl rfl ?_
    refine wo_nil (thenW_n (wc_false rfl (wc_region (wm rfl rfl ?_))))
    obtain ⟨m7, h7, w7, l7⟩ := w3.call fun _ _ r => (hS n (Nat.le_refl _)).atom r h1
    have b7 := w7.b
    refine wo_call rfl rfl (by kernel_rfl) (h7) rfl rfl ?_
    refine wf rfl rfl ?_
    refine wo_store rfl rfl rfl rfl (by assumption) rfl rfl (Nat.le_of_ble_eq_true rfl) rfl ?_
    intro m3 o3 f3 n3
    have w8 : W0 m E pb oN oO g1 { a := a, at_ := here E P } m3 _ := w7.store o3 f3
    refine wo_nil (thenW_n (wc_seq (wc_block ?_)))
    refine wc_loop (fun k e m' => k ≤ n ∧ ∃ k0 a b nm P', ELe (envL [(0, .ptr pb 0), (3, .ptr g1 0)]) e ∧ W0 m E pb oN oO g1 { k := k0, a := a, b := b, nm := nm, at_ := here E P } m' P' ∧ (b = 0 ∨ True) ∧ nm = ByteArray.empty ∧ run E k (.apps (here E P) a) P' = some (v, Q)) n ⟨Nat.le_refl _, _, _, 0, ByteArray.empty, _, .cons rfl (.cons rfl (.nil _)), w8, .inl rfl, rfl, hr⟩ ?_
    rintro k e mk ⟨hk, k1, a1, b1, nm, P2, he, w, _, rfl, hrk⟩
    refine Wc.weak ?_ he
    clear he
    cases k with
    | zero => simp [run] at hrk
    | succ k =>
    simp only [run] at hrk
    obtain ⟨aN, aO, r0, hn0, s0⟩ := w.p
    have hst := starts_spec (xb := xb) hX r0
    cases hs2 : starts P2 with
    | false =>
      rw [hs2] at hrk hst
      cases hrk
      have c1 : mk.cell g1 1 = some (.int .i64 v) := w.b.cell (i := 1) rfl
      refine wc_seq (wc_seq (wc_region (wm rfl rfl ?_)))
      refine wo_call rfl rfl (by kernel_rfl) (hst) rfl rfl ?_
      refine wo_nil (thenW_n (wc_false rfl (wc_exit (thenW_x ?_))))
      refine blockW_x (thenW_n (wc_seq (wc_region (wf rfl rfl ?_))))
      refine wo_m rfl (mv_load rfl rfl (by assumption)) rfl rfl ?_
      refine wa rfl rfl (wo_nil (thenW_n (wc_ret ?_)))
      refine endW_ret rfl rfl ?_
      exact ⟨rfl, w.done⟩
    | true =>
      rw [hs2] at hrk hst
      obtain ⟨b, B, hb, hrk⟩ := bindR_some hrk
      obtain ⟨n1', u1, v1, t1⟩ := w.call fun _ _ r => (hS k (by omega)).atom r hb
      have bb1 := v1.b
      refine wc_seq (wc_seq (wc_region (wm rfl rfl ?_)))
      refine wo_call rfl rfl (by kernel_rfl) (hst) rfl rfl ?_
      refine wo_nil (thenW_n (wc_true rfl (wc_skip (thenW_n (wc_block (wc_seq (wc_region (wm rfl rfl ?_))))))))
      refine wo_call rfl rfl (by kernel_rfl) (u1) rfl rfl ?_
      refine wf rfl rfl ?_
      refine wo_store rfl rfl rfl rfl (by assumption) rfl rfl (Nat.le_of_ble_eq_true rfl) rfl ?_
      intro m1 o1 f1 n1
      have v2 : W0 m E pb oN oO g1 { k := 4, a := a1, b := b1, at_ := here E P } m1 B := v1.store o1 f1
      refine wf rfl rfl ?_
      refine wo_store rfl rfl rfl rfl (by assumption) rfl rfl (Nat.le_of_ble_eq_true rfl) rfl ?_
      intro m2 o2 f2 n2
      have v3 : W0 m E pb oN oO g1 { k := 4, a := a1, b := b, at_ := here E P } m2 B := v2.store o2 f2
      have x3 := v3.b.rowAll (n := 10) rfl
      refine wo_nil (thenW_n (wc_region (wm rfl rfl ?_)))
      refine wo_m rfl (mv_loadA rfl rfl (by assumption)) rfl rfl ?_
      obtain ⟨n4', u4, v4, t4⟩ := v3.call fun _ _ r => put_spec (xb := xb) hX.no r { k := 4, a := a1, b := b, at_ := here E P }
      have bb4 := v4.b
      refine wo_call rfl rfl (by kernel_rfl) (u4) rfl rfl ?_
      refine wf rfl rfl ?_
      refine wo_store rfl rfl rfl rfl (by assumption) rfl rfl (Nat.le_of_ble_eq_true rfl) rfl ?_
      intro m3 o3 f3 n3
      have v5 : W0 m E pb oN oO g1 { k := 4, a := (put E { k := 4, a := a1, b := b, at_ := here E P } B).1, b := b, at_ := here E P } m3 _ := v4.store o3 f3
      refine wo_nil (blockW_n ?_)
      exact ⟨k, Nat.lt_succ_self _, by omega, _, _, _, _, _, .cons rfl (.cons rfl (.nil _)), v5, .inr trivial, rfl, hrk⟩
end
end Go.Proofs.YtppcjlplihiiiaaDoor.Sy

namespace Go.Proofs.YtppcjlplihiiiaaDoor.Sy
open Go Go.Ev Go.Ev.Pm
set_option linter.unusedVariables false
set_option linter.unusedSimpArgs false
set_option linter.unusedSectionVars false
section
variable {m m' : Mem} {E : Int} {pb : Nat} {oN oO : Nat → Prop} {P P' : PS} {xb : XB} {ext : CallF} (hX : XH ext) {n : Nat} (hS : SpecN xb ext E pb n) {v : Int} {Q : PS}
include hX hS
set_option maxHeartbeats 2000000 in
theorem handle_spec {g : Nat} {at_ : Int} {mh : Mem} (w : W0 m E pb oN oO g { at_ := at_ } mh P) {x : Nd} (hr : handleM E (run E n .inner) at_ P = some (x, Q)) :
    ∃ m', Ev Tryd.prog xb ext 69 [.ptr pb 0, .ptr g 0] mh (.tup []) m' ∧ W0 m E pb oN oO g x m' Q ∧ mh.next ≤ m'.next := by
  unfold handleM at hr
  split at hr
  · cases hr
  rename_i a A h1
  dsimp only at hr
  split at hr
  · cases hr
  rename_i b B h2
  split at hr
  · cases hr
  rename_i c C h3
  cases hr
  obtain ⟨n1, k1, w1, l1⟩ := w.call fun _ _ r => hS.inner r h1
  have b1 := w1.b
  refine ev_to ?_
  refine ev_of (fun m => hX.no _ _ m (by decide)) Tryd.func69 rfl rfl ?_
  refine wc_seq (wc_region (wm rfl rfl (wm rfl rfl (wm rfl rfl ?_))))
  refine wo_call rfl rfl (by kernel_rfl) (k1) rfl rfl ?_
  refine wk rfl rfl rfl (wf rfl rfl ?_)
  refine wo_store rfl rfl rfl rfl (by assumption) rfl rfl (Nat.le_of_ble_eq_true rfl) rfl ?_
  intro m1 o1 f1 n1
  have w2 : W0 m E pb oN oO g { k := 10, at_ := at_ } m1 _ := w1.store o1 f1
  refine wk rfl rfl rfl (wf rfl rfl ?_)
  refine wo_store rfl rfl rfl rfl (by assumption) rfl rfl (Nat.le_of_ble_eq_true rfl) rfl ?_
  intro m2 o2 f2 n2
  have w3 : W0 m E pb oN oO g { k := 10, a := a, at_ := at_ } m2 _ := w2.store o2 f2
  refine wo_nil (thenW_n (wc_seq (wc_region (wm rfl rfl ?_))))
  obtain ⟨n4, k4, w4, l4⟩ := w3.call fun _ _ r => must_spec (xb := xb) hX.no r kwith
  refine wo_call rfl rfl (by kernel_rfl) (k4) rfl rfl ?_
  refine wo_nil (thenW_n (wc_seq (wc_region (wm rfl rfl (wm rfl rfl ?_)))))
  obtain ⟨n5, k5, w5, l5⟩ := w4.call fun _ _ r => name_spec (xb := xb) hX.no r
  have b5 := w5.b
  refine wo_call rfl rfl (by kernel_rfl) (k5) rfl rfl ?_
  refine wk rfl rfl rfl (wf rfl rfl ?_)
  refine wo_store rfl rfl rfl rfl (by assumption) rfl rfl (Nat.le_of_ble_eq_true rfl) rfl ?_
  intro m3 o3 f3 n3
  have w6 : W0 m E pb oN oO g { k := 10, a := a, nm := (name E (must E kwith A)).1, at_ := at_ } m3 _ := w5.store o3 f3
  refine wo_nil (thenW_n (wc_seq (wc_region (wm rfl rfl (wm rfl rfl ?_)))))
  obtain ⟨n7, k7, w7, l7⟩ := w6.call fun _ _ r => name_spec (xb := xb) hX.no r
  have b7 := w7.b
  refine wo_call rfl rfl (by kernel_rfl) (k7) rfl rfl ?_
  refine wk rfl rfl rfl (wf rfl rfl ?_)
  refine wo_store rfl rfl rfl rfl (by assumption) rfl rfl (Nat.le_of_ble_eq_true rfl) rfl ?_
  intro m4 o4 f4 n4
  have w8 : W0 m E pb oN oO g { k := 10, a := a, nm := (name E (must E kwith A)).1, x := (name E (name E (must E kwith A)).2).1, at_ := at_ } m4 _ := w7.store o4 f4
  refine wo_nil (thenW_n (wc_seq (wc_region (wm rfl rfl (wm rfl rfl ?_)))))
  obtain ⟨n9, k9, w9, l9⟩ := w8.call fun _ _ r => name_spec (xb := xb) hX.no r
  have b9 := w9.b
  refine wo_call rfl rfl (by kernel_rfl) (k9) rfl rfl ?_
  refine wk rfl rfl rfl (wf rfl rfl ?_)
  refine wo_store rfl rfl rfl rfl (by assumption) rfl rfl (Nat.le_of_ble_eq_true rfl) rfl ?_
  intro m5 o5 f5 n5
  have w10 : W0 m E pb oN oO g { k := 10, a := a, nm := (name E (must E kwith A)).1, x := (name E (name E (must E kwith A)).2).1, y := (name E (name E (name E (must E kwith A)).2).2).1, at_ := at_ } m5 _ := w9.store o5 f5
  refine wo_nil (thenW_n (wc_seq (wc_region (wm rfl rfl (wm rfl rfl ?_)))))
  obtain ⟨n11, k11, w11, l11⟩ := w10.call fun _ _ r => then_spec (xb := xb) hX hS r karrow h2
  have b11 := w11.b
  refine wo_call rfl rfl (by kernel_rfl) (k11) rfl rfl ?_
  refine wk rfl rfl rfl (wf rfl rfl ?_)
  refine wo_store rfl rfl rfl rfl (by assumption) rfl rfl (Nat.le_of_ble_eq_true rfl) rfl ?_
  intro m6 o6 f6 n6
  have w12 : W0 m E pb oN oO g { k := 10, a := a, b := b, nm := (name E (must E kwith A)).1, x := (name E (name E (must E kwith A)).2).1, y := (name E (name E (name E (must E kwith A)).2).2).1, at_ := at_ } m6 _ := w11.store o6 f6
  refine wo_nil (thenW_n (wc_seq (wc_region (wm rfl rfl ?_))))
  obtain ⟨n13, k13, w13, l13⟩ := w12.call fun _ _ r => must_spec (xb := xb) hX.no r kreturn
  refine wo_call rfl rfl (by kernel_rfl) (k13) rfl rfl ?_
  refine wo_nil (thenW_n (wc_seq (wc_region (wm rfl rfl (wm rfl rfl ?_)))))
  obtain ⟨n14, k14, w14, l14⟩ := w13.call fun _ _ r => name_spec (xb := xb) hX.no r
  have b14 := w14.b
  refine wo_call rfl rfl (by kernel_rfl) (k14) rfl rfl ?_
  refine wk rfl rfl rfl (wf rfl rfl ?_)
  refine wo_store rfl rfl rfl rfl (by assumption) rfl rfl (Nat.le_of_ble_eq_true rfl) rfl ?_
  intro m7 o7 f7 n7
  have w15 : W0 m E pb oN oO g { k := 10, a := a, b := b, nm := (name E (must E kwith A)).1, x := (name E (name E (must E kwith A)).2).1, y := (name E (name E (name E (must E kwith A)).2).2).1, z := (name E (must E kreturn B)).1, at_ := at_ } m7 _ := w14.store o7 f7
  refine wo_nil (thenW_n (wc_seq (wc_region (wm rfl rfl (wm rfl rfl ?_)))))
  obtain ⟨n16, k16, w16, l16⟩ := w15.call fun _ _ r => then_spec (xb := xb) hX hS r karrow h3
  have b16 := w16.b
  refine wo_call rfl rfl (by kernel_rfl) (k16) rfl rfl ?_
  refine wk rfl rfl rfl (wf rfl rfl ?_)
  refine wo_store rfl rfl rfl rfl (by assumption) rfl rfl (Nat.le_of_ble_eq_true rfl) rfl ?_
  intro m8 o8 f8 n8
  have w17 : W0 m E pb oN oO g { k := 10, a := a, b := b, c := c, nm := (name E (must E kwith A)).1, x := (name E (name E (must E kwith A)).2).1, y := (name E (name E (name E (must E kwith A)).2).2).1, z := (name E (must E kreturn B)).1, at_ := at_ } m8 _ := w16.store o8 f8
  refine wo_nil (thenW_n (wc_region (wm rfl rfl ?_)))
  obtain ⟨n18, k18, w18, l18⟩ := w17.call fun _ _ r => must_spec (xb := xb) hX.no r kend
  refine wo_call rfl rfl (by kernel_rfl) (k18) rfl rfl ?_
  refine wo_nil ?_
  refine endW_none rfl ?_
  refine ⟨rfl, w18, ?_⟩
  omega
set_option maxHeartbeats 2000000 in
theorem atom_spec (h : Rep m E pb oN oO P) (hr : run E (n + 1) .atom P = some (v, Q)) : ∃ m', Ev Tryd.prog xb ext 59 [.ptr pb 0] m (.int .i64 v) m' ∧ Post m E pb oN oO m' Q := by
  simp only [run] at hr
  have hh := here_spec (xb := xb) hX.no h
  refine ev_to ?_
  cases hs : starts P with
  | false =>
    rw [hs] at hr
    cases hr
    refine ev_of (fun m => hX.no _ _ m (by decide)) Tryd.func59 rfl rfl ?_
    refine wc_seq (wc_region (wa rfl rfl (wo_nil (thenW_n (wc_seq (wc_region (wm rfl rfl ?_)))))))
    refine wo_call rfl rfl (by kernel_rfl) (hh) rfl rfl ?_
    refine wo_n rfl (nv_buildS rfl rfl rfl) rfl rfl ?_
    refine wo_alloc rfl rfl rfl rfl ?_
    intro g1 m1 o1 f1 l1
    have w1 := Wx.start (.refl h) o1 f1 l1
    refine wo_store rfl rfl rfl rfl (by assumption) rfl rfl (Nat.le_of_ble_eq_true rfl) rfl ?_
    intro m2 o2 f2 n2
    have w2 : W0 m E pb oN oO g1 { at_ := here E P } m2 P := w1.store o2 f2
    refine wo_nil (thenW_n (wc_seq (wc_region (wm rfl rfl ?_))))
    obtain ⟨aN, aO, r0, hn0, s0⟩ := w2.p
    obtain ⟨nv, hnv, hN⟩ := next_spec (xb := xb) hX.no r0
    have hst := starts_spec (xb := xb) hX r0
    rw [hs] at hst
    refine wo_call rfl rfl (by kernel_rfl) (hnv) rfl rfl ?_
    refine wa rfl rfl (wo_nil (thenW_n (wc_seq (wc_block (wc_seq (wc_region (wm rfl rfl ?_)))))))
    refine wo_call rfl rfl (by kernel_rfl) (hst) rfl rfl ?_
    refine wo_n rfl (nv_not rfl rfl) rfl rfl (wa rfl rfl (wo_nil (thenW_n (wc_true rfl (wc_seq (wc_region (wm rfl rfl (wo_n rfl (nv_buildS rfl rfl rfl) rfl rfl ?_))))))))
    refine wo_box rfl rfl rfl rfl rfl ?_
    intro g3 m3 o3 f3 l3
    have r4 := r0.alloc f3
    have hgn : ¬ own pb aN aO g3 := fun hc => Nat.lt_irrefl _ (Nat.lt_of_lt_of_le (r0.lt hc) l3)
    obtain ⟨mf, hf, pf⟩ := fail_spec (xb := xb) hX.no r4 (.want g3 (txt [97, 116, 111, 109]) o3 hgn)
    refine wo_n rfl (nv_mkI rfl rfl) rfl rfl ?_
    refine wo_call rfl rfl (by kernel_rfl) (hf) rfl rfl ?_
    refine wo_nil (thenW_n (wc_seq (wc_region (wa rfl rfl (wo_nil (thenW_n (wc_ret (blockW_r (thenW_r ?_)))))))))
    refine endW_ret rfl rfl ?_
    exact ⟨rfl, (w2.to hn0 s0 (.alloc r0 f3 pf)).done⟩
  | true =>
    rw [hs] at hr
    cases hnx : next P with
    | none => unfold starts at hs; rw [hnx] at hs; cases hs
    | some t =>
      rw [hnx] at hr
      dsimp only at hr
      by_cases h0 : t.kind = 0
      · rw [if_pos h0] at hr
        obtain ⟨rfl, rfl⟩ := put_eq hr
        refine ev_of (fun m => hX.no _ _ m (by decide)) Tryd.func59 rfl rfl ?_
        refine wc_seq (wc_region (wa rfl rfl (wo_nil (thenW_n (wc_seq (wc_region (wm rfl rfl ?_)))))))
        refine wo_call rfl rfl (by kernel_rfl) (hh) rfl rfl ?_
        refine wo_n rfl (nv_buildS rfl rfl rfl) rfl rfl ?_
        refine wo_alloc rfl rfl rfl rfl ?_
        intro g1 m1 o1 f1 l1
        have w1 := Wx.start (.refl h) o1 f1 l1
        refine wo_store rfl rfl rfl rfl (by assumption) rfl rfl (Nat.le_of_ble_eq_true rfl) rfl ?_
        intro m2 o2 f2 n2
        have w2 : W0 m E pb oN oO g1 { at_ := here E P } m2 P := w1.store o2 f2
        refine wo_nil (thenW_n (wc_seq (wc_region (wm rfl rfl ?_))))
        obtain ⟨aN, aO, r0, hn0, s0⟩ := w2.p
        obtain ⟨nv, hnv, hN⟩ := next_spec (xb := xb) hX.no r0
        rw [hnx] at hN
        obtain ⟨tb, tz, rfl, hA, hno, hbl⟩ := hN
        have hk := hA.k
        have hst := starts_spec (xb := xb) hX r0
        rw [hs] at hst
        refine wo_call rfl rfl (by kernel_rfl) (hnv) rfl rfl ?_
        refine wa rfl rfl (wo_nil (thenW_n (wc_seq (wc_block (wc_seq (wc_region (wm rfl rfl ?_)))))))
        refine wo_call rfl rfl (by kernel_rfl) (hst) rfl rfl ?_
        refine wo_n rfl (nv_not rfl rfl) rfl rfl (wa rfl rfl (wo_nil (thenW_n (wc_false rfl (wc_seq (wc_region (wm rfl rfl (wk rfl rfl rfl (wf rfl rfl ?_)))))))))
        refine wo_m rfl (mv_load rfl rfl (by assumption)) rfl rfl ?_
        refine wo_n rfl (nv_eqlT rfl rfl rfl (by first | assumption | decide | omega)) rfl rfl (wa rfl rfl (wo_nil (thenW_n (wc_true rfl (wc_region (wm rfl rfl ?_))))))
        obtain ⟨n4, k4, w4, l4⟩ := w2.call fun _ _ r => name_spec (xb := xb) hX.no r
        have b4 := w4.b
        refine wo_call rfl rfl (by kernel_rfl) (k4) rfl rfl ?_
        refine wf rfl rfl ?_
        refine wo_store rfl rfl rfl rfl (by assumption) rfl rfl (Nat.le_of_ble_eq_true rfl) rfl ?_
        intro m3 o3 f3 n3
        have w5 : W0 m E pb oN oO g1 { nm := (name E P).1, at_ := here E P } m3 _ := w4.store o3 f3
        have x5 := w5.b.rowAll (n := 10) rfl
        refine wo_nil (blockW_n (thenW_n (wc_seq (wc_region (wm rfl rfl ?_)))))
        refine wo_m rfl (mv_loadA rfl rfl (by assumption)) rfl rfl ?_
        obtain ⟨n6, k6, w6, l6⟩ := w5.call fun _ _ r => put_spec (xb := xb) hX.no r { nm := (name E P).1, at_ := here E P }
        refine wo_call rfl rfl (by kernel_rfl) (k6) rfl rfl ?_
        refine wa rfl rfl (wo_nil (thenW_n (wc_ret ?_)))
        refine endW_ret rfl rfl ?_
        exact ⟨rfl, w6.done⟩
      · rw [if_neg h0] at hr
        by_cases h1 : t.kind = 1
        · rw [if_pos h1] at hr
          obtain ⟨rfl, rfl⟩ := put_eq hr
          obtain ⟨rest, hT⟩ := next_some hnx
          refine ev_of (fun m => hX.no _ _ m (by decide)) Tryd.func59 rfl rfl ?_
          refine wc_seq (wc_region (wa rfl rfl (wo_nil (thenW_n (wc_seq (wc_region (wm rfl rfl ?_)))))))
          refine wo_call rfl rfl (by kernel_rfl) (hh) rfl rfl ?_
          refine wo_n rfl (nv_buildS rfl rfl rfl) rfl rfl ?_
          refine wo_alloc rfl rfl rfl rfl ?_
          intro g1 m1 o1 f1 l1
          have w1 := Wx.start (.refl h) o1 f1 l1
          refine wo_store rfl rfl rfl rfl (by assumption) rfl rfl (Nat.le_of_ble_eq_true rfl) rfl ?_
          intro m2 o2 f2 n2
          have w2 : W0 m E pb oN oO g1 { at_ := here E P } m2 P := w1.store o2 f2
          refine wo_nil (thenW_n (wc_seq (wc_region (wm rfl rfl ?_))))
          obtain ⟨aN, aO, r0, hn0, s0⟩ := w2.p
          obtain ⟨nv, hnv, hN⟩ := next_spec (xb := xb) hX.no r0
          rw [hnx] at hN
          obtain ⟨tb, tz, rfl, hA, hno, hbl⟩ := hN
          have hk := hA.k
          have hst := starts_spec (xb := xb) hX r0
          rw [hs] at hst
          obtain ⟨ub, uoff, un, uc, uov, unv, uev, hp2, hn1, hn2'⟩ := r0.first hT
          have c2 := hp2.obj.cell (i := 0) rfl
          have q2 := hp2.obj
          refine wo_call rfl rfl (by kernel_rfl) (hnv) rfl rfl ?_
          refine wa rfl rfl (wo_nil (thenW_n (wc_seq (wc_block (wc_seq (wc_region (wm rfl rfl ?_)))))))
          refine wo_call rfl rfl (by kernel_rfl) (hst) rfl rfl ?_
          refine wo_n rfl (nv_not rfl rfl) rfl rfl (wa rfl rfl (wo_nil (thenW_n (wc_false rfl (wc_seq (wc_region (wm rfl rfl (wk rfl rfl rfl (wf rfl rfl ?_)))))))))
          refine wo_m rfl (mv_load rfl rfl (by assumption)) rfl rfl ?_
          refine wo_n rfl (nv_eqlF rfl rfl rfl (by first | assumption | decide | omega)) rfl rfl (wa rfl rfl (wo_nil (thenW_n (wc_false rfl (wc_seq (wc_region (wm rfl rfl (wk rfl rfl rfl (wf rfl rfl ?_)))))))))
          refine wo_m rfl (mv_load rfl rfl (by assumption)) rfl rfl ?_
          refine wo_n rfl (nv_eqlT rfl rfl rfl (by first | assumption | decide | omega)) rfl rfl (wa rfl rfl (wo_nil (thenW_n (wc_true rfl (wc_seq (wc_region (wm rfl rfl (wm rfl rfl (wk rfl rfl rfl ?_)))))))))
          refine wf rfl rfl ?_
          refine wo_m rfl (mv_load rfl rfl (by assumption)) rfl rfl ?_
          refine wo_n rfl (nv_slice rfl rfl rfl rfl (slice_from (l := 1) (by first | assumption | omega) (by first | assumption | omega))) rfl rfl (wk rfl rfl rfl (wf rfl rfl ?_))
          refine wo_store rfl rfl rfl rfl (by assumption) rfl rfl (Nat.le_of_ble_eq_true rfl) rfl ?_
          intro m3 o3 f3 n3
          have w3 : W0 m E pb oN oO g1 { at_ := here E P } m3 (drop1 P) := w2.to hn0 s0 (dropR r0 hp2 hT o3 f3)
          have hA' := hA.fr f3 hbl (fun e => hno (.inl e))
          have hnum := hA'.n
          have b3 := w3.b
          refine wo_nil (thenW_n (wc_region (wm rfl rfl (wk rfl rfl rfl (wf rfl rfl ?_)))))
          refine wo_m rfl (mv_load rfl rfl (by assumption)) rfl rfl ?_
          refine wf rfl rfl ?_
          refine wo_store rfl rfl rfl rfl (by assumption) rfl rfl (Nat.le_of_ble_eq_true rfl) rfl ?_
          intro m4 o4 f4 n4
          have w4 : W0 m E pb oN oO g1 { k := 1, at_ := here E P } m4 _ := w3.store o4 f4
          refine wf rfl rfl ?_
          refine wo_store rfl rfl rfl rfl (by assumption) rfl rfl (Nat.le_of_ble_eq_true rfl) rfl ?_
          intro m5 o5 f5 n5
          have w5 : W0 m E pb oN oO g1 { k := 1, num := t.num, at_ := here E P } m5 _ := w4.store o5 f5
          have x5 := w5.b.rowAll (n := 10) rfl
          refine wo_nil (blockW_n (thenW_n (wc_seq (wc_region (wm rfl rfl ?_)))))
          refine wo_m rfl (mv_loadA rfl rfl (by assumption)) rfl rfl ?_
          obtain ⟨n6, k6, w6, l6⟩ := w5.call fun _ _ r => put_spec (xb := xb) hX.no r { k := 1, num := t.num, at_ := here E P }
          refine wo_call rfl rfl (by kernel_rfl) (k6) rfl rfl ?_
          refine wa rfl rfl (wo_nil (thenW_n (wc_ret ?_)))
          refine endW_ret rfl rfl ?_
          exact ⟨rfl, w6.done⟩
        · rw [if_neg h1] at hr
          cases ho : is P kopen with
          | true =>
            rw [ho] at hr
            obtain ⟨a, A, hi, hr⟩ := bindR_some hr
            cases hr
            refine ev_of (fun m => hX.no _ _ m (by decide)) Tryd.func59 rfl rfl ?_
            refine wc_seq (wc_region (wa rfl rfl (wo_nil (thenW_n (wc_seq (wc_region (wm rfl rfl ?_)))))))
            refine wo_call rfl rfl (by kernel_rfl) (hh) rfl rfl ?_
            refine wo_n rfl (nv_buildS rfl rfl rfl) rfl rfl ?_
            refine wo_alloc rfl rfl rfl rfl ?_
            intro g1 m1 o1 f1 l1
            have w1 := Wx.start (.refl h) o1 f1 l1
            refine wo_store rfl rfl rfl rfl (by assumption) rfl rfl (Nat.le_of_ble_eq_true rfl) rfl ?_
            intro m2 o2 f2 n2
            have w2 : W0 m E pb oN oO g1 { at_ := here E P } m2 P := w1.store o2 f2
            refine wo_nil (thenW_n (wc_seq (wc_region (wm rfl rfl ?_))))
            obtain ⟨aN, aO, r0, hn0, s0⟩ := w2.p
            obtain ⟨nv, hnv, hN⟩ := next_spec (xb := xb) hX.no r0
            rw [hnx] at hN
            obtain ⟨tb, tz, rfl, hA, hno, hbl⟩ := hN
            have hk := hA.k
            have hst := starts_spec (xb := xb) hX r0
            rw [hs] at hst
            refine wo_call rfl rfl (by kernel_rfl) (hnv) rfl rfl ?_
            refine wa rfl rfl (wo_nil (thenW_n (wc_seq (wc_block (wc_seq (wc_region (wm rfl rfl ?_)))))))
            refine wo_call rfl rfl (by kernel_rfl) (hst) rfl rfl ?_
            refine wo_n rfl (nv_not rfl rfl) rfl rfl (wa rfl rfl (wo_nil (thenW_n (wc_false rfl (wc_seq (wc_region (wm rfl rfl (wk rfl rfl rfl (wf rfl rfl ?_)))))))))
            refine wo_m rfl (mv_load rfl rfl (by assumption)) rfl rfl ?_
            refine wo_n rfl (nv_eqlF rfl rfl rfl (by first | assumption | decide | omega)) rfl rfl (wa rfl rfl (wo_nil (thenW_n (wc_false rfl (wc_seq (wc_region (wm rfl rfl (wk rfl rfl rfl (wf rfl rfl ?_)))))))))
            refine wo_m rfl (mv_load rfl rfl (by assumption)) rfl rfl ?_
            refine wo_n rfl (nv_eqlF rfl rfl rfl (by first | assumption | decide | omega)) rfl rfl (wa rfl rfl (wo_nil (thenW_n (wc_false rfl (wc_seq (wc_region (wm rfl rfl ?_)))))))
            obtain ⟨n3, k3, w3, l3⟩ := w2.call fun _ _ r => take_true (xb := xb) hX r kopen ho
            refine wo_call rfl rfl (by kernel_rfl) (k3) rfl rfl ?_
            refine wa rfl rfl (wo_nil (thenW_n (wc_true rfl (wc_seq (wc_region (wm rfl rfl ?_))))))
            obtain ⟨n4, k4, w4, l4⟩ := w3.call fun _ _ r => hS.inner r hi
            refine wo_call rfl rfl (by kernel_rfl) (k4) rfl rfl ?_
            refine wa rfl rfl (wo_nil (thenW_n (wc_seq (wc_region (wm rfl rfl ?_)))))
            obtain ⟨n5, k5, w5, l5⟩ := w4.call fun _ _ r => must_spec (xb := xb) hX.no r kclose
            refine wo_call rfl rfl (by kernel_rfl) (k5) rfl rfl ?_
            refine wo_nil (thenW_n (wc_seq (wc_region (wm rfl rfl (wa rfl rfl (wo_nil (thenW_n (wc_ret (blockW_r ?_)))))))))
            refine thenW_r ?_
            refine endW_ret rfl rfl ?_
            exact ⟨rfl, w5.done⟩
          | false =>
            rw [ho] at hr
            cases hh2 : is P khandle with
            | true =>
              rw [hh2] at hr
              simp only [Bool.false_eq_true, if_false, if_true] at hr
              split at hr
              · cases hr
              rename_i x B hhm
              obtain ⟨rfl, rfl⟩ := put_eq hr
              refine ev_of (fun m => hX.no _ _ m (by decide)) Tryd.func59 rfl rfl ?_
              refine wc_seq (wc_region (wa rfl rfl (wo_nil (thenW_n (wc_seq (wc_region (wm rfl rfl ?_)))))))
              refine wo_call rfl rfl (by kernel_rfl) (hh) rfl rfl ?_
              refine wo_n rfl (nv_buildS rfl rfl rfl) rfl rfl ?_
              refine wo_alloc rfl rfl rfl rfl ?_
              intro g1 m1 o1 f1 l1
              have w1 := Wx.start (.refl h) o1 f1 l1
              refine wo_store rfl rfl rfl rfl (by assumption) rfl rfl (Nat.le_of_ble_eq_true rfl) rfl ?_
              intro m2 o2 f2 n2
              have w2 : W0 m E pb oN oO g1 { at_ := here E P } m2 P := w1.store o2 f2
              refine wo_nil (thenW_n (wc_seq (wc_region (wm rfl rfl ?_))))
              obtain ⟨aN, aO, r0, hn0, s0⟩ := w2.p
              obtain ⟨nv, hnv, hN⟩ := next_spec (xb := xb) hX.no r0
              rw [hnx] at hN
              obtain ⟨tb, tz, rfl, hA, hno, hbl⟩ := hN
              have hk := hA.k
              have hst := starts_spec (xb := xb) hX r0
              rw [hs] at hst
              refine wo_call rfl rfl (by kernel_rfl) (hnv) rfl rfl ?_
              refine wa rfl rfl (wo_nil (thenW_n (wc_seq (wc_block (wc_seq (wc_region (wm rfl rfl ?_)))))))
              refine wo_call rfl rfl (by kernel_rfl) (hst) rfl rfl ?_
              refine wo_n rfl (nv_not rfl rfl) rfl rfl (wa rfl rfl (wo_nil (thenW_n (wc_false rfl (wc_seq (wc_region (wm rfl rfl (wk rfl rfl rfl (wf rfl rfl ?_)))))))))
              refine wo_m rfl (mv_load rfl rfl (by assumption)) rfl rfl ?_
              refine wo_n rfl (nv_eqlF rfl rfl rfl (by first | assumption | decide | omega)) rfl rfl (wa rfl rfl (wo_nil (thenW_n (wc_false rfl (wc_seq (wc_region (wm rfl rfl (wk rfl rfl rfl (wf rfl rfl ?_)))))))))
              refine wo_m rfl (mv_load rfl rfl (by assumption)) rfl rfl ?_
              refine wo_n rfl (nv_eqlF rfl rfl rfl (by first | assumption | decide | omega)) rfl rfl (wa rfl rfl (wo_nil (thenW_n (wc_false rfl (wc_seq (wc_region (wm rfl rfl ?_)))))))
              obtain ⟨n3, k3, w3, l3⟩ := w2.call fun _ _ r => take_false (xb := xb) hX r kopen ho
              refine wo_call rfl rfl (by kernel_rfl) (k3) rfl rfl ?_
              refine wa rfl rfl (wo_nil (thenW_n (wc_false rfl (wc_seq (wc_region (wm rfl rfl ?_))))))
              obtain ⟨n4, k4, w4, l4⟩ := w3.call fun _ _ r => take_true (xb := xb) hX r khandle hh2
              refine wo_call rfl rfl (by kernel_rfl) (k4) rfl rfl ?_
              refine wa rfl rfl (wo_nil (thenW_n (wc_true rfl (wc_region (wm rfl rfl ?_)))))
              obtain ⟨n5, k5, w5, l5⟩ := handle_spec hX hS w4 hhm
              refine wo_call rfl rfl (by kernel_rfl) (k5) rfl rfl ?_
              have x5 := w5.b.rowAll (n := 10) rfl
              refine wo_nil (blockW_n (thenW_n (wc_seq (wc_region (wm rfl rfl ?_)))))
              refine wo_m rfl (mv_loadA rfl rfl (by assumption)) rfl rfl ?_
              obtain ⟨n6, k6, w6, l6⟩ := w5.call fun _ _ r => put_spec (xb := xb) hX.no r x
              refine wo_call rfl rfl (by kernel_rfl) (k6) rfl rfl ?_
              refine wa rfl rfl (wo_nil (thenW_n (wc_ret ?_)))
              refine endW_ret rfl rfl ?_
              exact ⟨rfl, w6.done⟩
            | false =>
              rw [hh2] at hr
              simp only [Bool.false_eq_true, if_false] at hr
              cases ht : is P ktrue with
              | true =>
                rw [ht] at hr
                obtain ⟨rfl, rfl⟩ := put_eq hr
                refine ev_of (fun m => hX.no _ _ m (by decide)) Tryd.func59 rfl rfl ?_
                refine wc_seq (wc_region (wa rfl rfl (wo_nil (thenW_n (wc_seq (wc_region (wm rfl rfl ?_)))))))
                refine wo_call rfl rfl (by kernel_rfl) (hh) rfl rfl ?_
                refine wo_n rfl (nv_buildS rfl rfl rfl) rfl rfl ?_
                refine wo_alloc rfl rfl rfl rfl ?_
                intro g1 m1 o1 f1 l1
                have w1 := Wx.start (.refl h) o1 f1 l1
                refine wo_store rfl rfl rfl rfl (by assumption) rfl rfl (Nat.le_of_ble_eq_true rfl) rfl ?_
                intro m2 o2 f2 n2
                have w2 : W0 m E pb oN oO g1 { at_ := here E P } m2 P := w1.store o2 f2
                refine wo_nil (thenW_n (wc_seq (wc_region (wm rfl rfl ?_))))
                obtain ⟨aN, aO, r0, hn0, s0⟩ := w2.p
                obtain ⟨nv, hnv, hN⟩ := next_spec (xb := xb) hX.no r0
                rw [hnx] at hN
                obtain ⟨tb, tz, rfl, hA, hno, hbl⟩ := hN
                have hk := hA.k
                have hst := starts_spec (xb := xb) hX r0
                rw [hs] at hst
                refine wo_call rfl rfl (by kernel_rfl) (hnv) rfl rfl ?_
                refine wa rfl rfl (wo_nil (thenW_n (wc_seq (wc_block (wc_seq (wc_region (wm rfl rfl ?_)))))))
                refine wo_call rfl rfl (by kernel_rfl) (hst) rfl rfl ?_
                refine wo_n rfl (nv_not rfl rfl) rfl rfl (wa rfl rfl (wo_nil (thenW_n (wc_false rfl (wc_seq (wc_region (wm rfl rfl (wk rfl rfl rfl (wf rfl rfl ?_)))))))))
                refine wo_m rfl (mv_load rfl rfl (by assumption)) rfl rfl ?_
                refine wo_n rfl (nv_eqlF rfl rfl rfl (by first | assumption | decide | omega)) rfl rfl (wa rfl rfl (wo_nil (thenW_n (wc_false rfl (wc_seq (wc_region (wm rfl rfl (wk rfl rfl rfl (wf rfl rfl ?_)))))))))
                refine wo_m rfl (mv_load rfl rfl (by assumption)) rfl rfl ?_
                refine wo_n rfl (nv_eqlF rfl rfl rfl (by first | assumption | decide | omega)) rfl rfl (wa rfl rfl (wo_nil (thenW_n (wc_false rfl (wc_seq (wc_region (wm rfl rfl ?_)))))))
                obtain ⟨n3, k3, w3, l3⟩ := w2.call fun _ _ r => take_false (xb := xb) hX r kopen ho
                refine wo_call rfl rfl (by kernel_rfl) (k3) rfl rfl ?_
                refine wa rfl rfl (wo_nil (thenW_n (wc_false rfl (wc_seq (wc_region (wm rfl rfl ?_))))))
                obtain ⟨n4, k4, w4, l4⟩ := w3.call fun _ _ r => take_false (xb := xb) hX r khandle hh2
                refine wo_call rfl rfl (by kernel_rfl) (k4) rfl rfl ?_
                refine wa rfl rfl (wo_nil (thenW_n (wc_false rfl (wc_seq (wc_region (wm rfl rfl ?_))))))
                obtain ⟨n5, k5, w5, l5⟩ := w4.call fun _ _ r => take_true (xb := xb) hX r ktrue ht
                have b5 := w5.b
                refine wo_call rfl rfl (by kernel_rfl) (k5) rfl rfl ?_
                refine wa rfl rfl (wo_nil (thenW_n (wc_true rfl (wc_region (wf rfl rfl ?_)))))
                refine wo_store rfl rfl rfl rfl (by assumption) rfl rfl (Nat.le_of_ble_eq_true rfl) rfl ?_
                intro m3 o3 f3 n3
                have w6 : W0 m E pb oN oO g1 { k := 2, at_ := here E P } m3 _ := w5.store o3 f3
                refine wf rfl rfl ?_
                refine wo_store rfl rfl rfl rfl (by assumption) rfl rfl (Nat.le_of_ble_eq_true rfl) rfl ?_
                intro m4 o4 f4 n4
                have w7 : W0 m E pb oN oO g1 { k := 2, num := 1, at_ := here E P } m4 _ := w6.store o4 f4
                have x7 := w7.b.rowAll (n := 10) rfl
                refine wo_nil (blockW_n (thenW_n (wc_seq (wc_region (wm rfl rfl ?_)))))
                refine wo_m rfl (mv_loadA rfl rfl (by assumption)) rfl rfl ?_
                obtain ⟨n8, k8, w8, l8⟩ := w7.call fun _ _ r => put_spec (xb := xb) hX.no r { k := 2, num := 1, at_ := here E P }
                refine wo_call rfl rfl (by kernel_rfl) (k8) rfl rfl ?_
                refine wa rfl rfl (wo_nil (thenW_n (wc_ret ?_)))
                refine endW_ret rfl rfl ?_
                exact ⟨rfl, w8.done⟩
              | false =>
                rw [ht] at hr
                obtain ⟨rfl, rfl⟩ := put_eq hr
                refine ev_of (fun m => hX.no _ _ m (by decide)) Tryd.func59 rfl rfl ?_
                refine wc_seq (wc_region (wa rfl rfl (wo_nil (thenW_n (wc_seq (wc_region (wm rfl rfl ?_)))))))
                refine wo_call rfl rfl (by kernel_rfl) (hh) rfl rfl ?_
                refine wo_n rfl (nv_buildS rfl rfl rfl) rfl rfl ?_
                refine wo_alloc rfl rfl rfl rfl ?_
                intro g1 m1 o1 f1 l1
                have w1 := Wx.start (.refl h) o1 f1 l1
                refine wo_store rfl rfl rfl rfl (by assumption) rfl rfl (Nat.le_of_ble_eq_true rfl) rfl ?_
                intro m2 o2 f2 n2
                have w2 : W0 m E pb oN oO g1 { at_ := here E P } m2 P := w1.store o2 f2
                refine wo_nil (thenW_n (wc_seq (wc_region (wm rfl rfl ?_))))
                obtain ⟨aN, aO, r0, hn0, s0⟩ := w2.p
                obtain ⟨nv, hnv, hN⟩ := next_spec (xb := xb) hX.no r0
                rw [hnx] at hN
                obtain ⟨tb, tz, rfl, hA, hno, hbl⟩ := hN
                have hk := hA.k
                have hst := starts_spec (xb := xb) hX r0
                rw [hs] at hst
                refine wo_call rfl rfl (by kernel_rfl) (hnv) rfl rfl ?_
                refine wa rfl rfl (wo_nil (thenW_n (wc_seq (wc_block (wc_seq (wc_region (wm rfl rfl ?_)))))))
                refine wo_call rfl rfl (by kernel_rfl) (hst) rfl rfl ?_
                refine wo_n rfl (nv_not rfl rfl) rfl rfl (wa rfl rfl (wo_nil (thenW_n (wc_false rfl (wc_seq (wc_region (wm rfl rfl (wk rfl rfl rfl (wf rfl rfl ?_)))))))))
                refine wo_m rfl (mv_load rfl rfl (by assumption)) rfl rfl ?_
                refine wo_n rfl (nv_eqlF rfl rfl rfl (by first | assumption | decide | omega)) rfl rfl (wa rfl rfl (wo_nil (thenW_n (wc_false rfl (wc_seq (wc_region (wm rfl rfl (wk rfl rfl rfl (wf rfl rfl ?_)))))))))
                refine wo_m rfl (mv_load rfl rfl (by assumption)) rfl rfl ?_
                refine wo_n rfl (nv_eqlF rfl rfl rfl (by first | assumption | decide | omega)) rfl rfl (wa rfl rfl (wo_nil (thenW_n (wc_false rfl (wc_seq (wc_region (wm rfl rfl ?_)))))))
                obtain ⟨n3, k3, w3, l3⟩ := w2.call fun _ _ r => take_false (xb := xb) hX r kopen ho
                refine wo_call rfl rfl (by kernel_rfl) (k3) rfl rfl ?_
                refine wa rfl rfl (wo_nil (thenW_n (wc_false rfl (wc_seq (wc_region (wm rfl rfl ?_))))))
                obtain ⟨n4, k4, w4, l4⟩ := w3.call fun _ _ r => take_false (xb := xb) hX r khandle hh2
                refine wo_call rfl rfl (by kernel_rfl) (k4) rfl rfl ?_
                refine wa rfl rfl (wo_nil (thenW_n (wc_false rfl (wc_seq (wc_region (wm rfl rfl ?_))))))
                obtain ⟨n5, k5, w5, l5⟩ := w4.call fun _ _ r => take_false (xb := xb) hX r ktrue ht
                refine wo_call rfl rfl (by kernel_rfl) (k5) rfl rfl ?_
                refine wa rfl rfl (wo_nil (thenW_n (wc_false rfl (wc_seq (wc_region (wm rfl rfl ?_))))))
                obtain ⟨n5', k5', w5', l5'⟩ := w5.call fun _ _ r => take_spec (xb := xb) hX.no r kfalse
                have b5 := w5'.b
                refine wo_call rfl rfl (by kernel_rfl) (k5') rfl rfl ?_
                refine wo_nil (thenW_n (wc_region (wf rfl rfl ?_)))
                refine wo_store rfl rfl rfl rfl (by assumption) rfl rfl (Nat.le_of_ble_eq_true rfl) rfl ?_
                intro m3 o3 f3 n3
                have w6 : W0 m E pb oN oO g1 { k := 2, at_ := here E P } m3 _ := w5'.store o3 f3
                have x6 := w6.b.rowAll (n := 10) rfl
                refine wo_nil (blockW_n (thenW_n (wc_seq (wc_region (wm rfl rfl ?_)))))
                refine wo_m rfl (mv_loadA rfl rfl (by assumption)) rfl rfl ?_
                obtain ⟨n8, k8, w8, l8⟩ := w6.call fun _ _ r => put_spec (xb := xb) hX.no r { k := 2, at_ := here E P }
                refine wo_call rfl rfl (by kernel_rfl) (k8) rfl rfl ?_
                refine wa rfl rfl (wo_nil (thenW_n (wc_ret ?_)))
                refine endW_ret rfl rfl ?_
                exact ⟨rfl, w8.done⟩
omit hS
theorem spec_all : ∀ n, SpecN xb ext E pb n := by
  intro n
  induction n using Nat.strongRecOn with
  | ind n ih =>
    cases n with
    | zero => exact ⟨fun _ h => by simp [run] at h, fun _ h => by simp [run] at h, fun _ _ h => by simp [run] at h, fun _ h => by simp [run] at h, fun _ h => by simp [run] at h⟩
    | succ n =>
      have hS := ih n (Nat.lt_succ_self n)
      have hA : ∀ k, k ≤ n → SpecN xb ext E pb k := fun k hk => ih k (by omega)
      exact ⟨fun h hr => inner_spec hX hS h hr, fun h hr => expr_spec hX hS h hr, fun hl h hr => level_spec hX hA hl h hr, fun h hr => apply_spec hX hA h hr, fun h hr => atom_spec hX hS h hr⟩
end
end Go.Proofs.YtppcjlplihiiiaaDoor.Sy
