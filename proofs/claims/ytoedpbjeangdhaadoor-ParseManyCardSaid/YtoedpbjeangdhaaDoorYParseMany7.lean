/- Several texts in one: contracts of functions of the program, and what they lean on. In part written by a program of this session over the kit's print, in part by hand. -/
import Derived.Test.YtoedpbjeangdhaaDoorYParseMany6
import Derived.Test.YtoedpbjeangdhaaDoorYParseMany5
namespace Go.Proofs.YtoedpbjeangdhaaDoor.Sy
open Go Go.Ev Go.Ev.Pm
set_option linter.unusedVariables false
set_option linter.unusedSimpArgs false
set_option linter.unusedSectionVars false
section
variable {m m' : Mem} {E : Int} {pb : Nat} {oN oO : Nat → Prop} {P P' : PS} {xb : XB} {ext : CallF} (hX : XH ext) {n : Nat} {v : Int} {Q : PS}
theorem prim_le {l : Nat} {k : Int} (h : prim l P = some k) : 0 ≤ k := by
  unfold prim at h
  split at h <;> (split at h; · cases h; decide) <;> (split at h; · cases h; decide) <;> cases h
theorem primI_some {l : Nat} {k : Int} (h : prim l P = some k) : primI l P = k := by unfold primI; rw [h]; rfl
theorem primI_none {l : Nat} (h : prim l P = none) : primI l P = -1 := by unfold primI; rw [h]; rfl
include hX
set_option maxHeartbeats 2000000 in
theorem level_spec (hS : ∀ k, k ≤ n → SpecN xb ext E pb k) {l : Nat} (hl : l ≤ 3) (h : Rep m E pb oN oO P) (hr : run E (n + 1) (.level l) P = some (v, Q)) : ∃ m', Ev Tryd.prog xb ext 30 [.ptr pb 0, .int .i64 (l : Nat)] m (.int .i64 v) m' ∧ Post m E pb oN oO m' Q := by
  simp only [run] at hr
  obtain ⟨gl, ml, hlv, fl, cl⟩ := hX.lev m h.gl
  have hlv' := ev_ext (p := Tryd.prog) (xb := xb) hlv
  have A0 : Post m E pb oN oO ml P := .alloc h fl (.refl (h.alloc fl))
  refine ev_to ?_
  by_cases h3 : l = 3
  · rw [if_pos h3] at hr
    obtain ⟨m1, h1, A1⟩ := A0.step fun _ _ r => (hS n (Nat.le_refl _)).apply r hr
    refine ev_of (fun m => hX.no _ _ m (by decide)) Tryd.func30 rfl rfl ?_
    refine wc_seq ?_
    refine wc_region ?_
    refine wo_n rfl (nv_assign rfl rfl) rfl rfl ?_
    refine wo_nil ?_
    refine thenW_n ?_
    refine wc_seq ?_
    refine wc_seq ?_
    refine wc_region ?_
    refine wo_n rfl (nv_move rfl rfl) rfl rfl ?_
    refine wo_call rfl rfl (by kernel_rfl) (hlv') rfl rfl ?_
    first
      | refine wo_n rfl (nv_lenS rfl rfl rfl) rfl rfl ?_
      | refine wo_n rfl (nv_lenN rfl rfl rfl) rfl rfl ?_
      | refine wo_n rfl (nv_lenR (by assumption) rfl rfl rfl) rfl rfl ?_
    refine wo_n rfl (nv_eqlT rfl rfl rfl (by first | assumption | decide | omega)) rfl rfl ?_
    refine wo_nil ?_
    refine thenW_n ?_
    refine wc_true rfl ?_
    refine wc_seq ?_
    refine wc_region ?_
    refine wo_n rfl (nv_move rfl rfl) rfl rfl ?_
    refine wo_call rfl rfl (by kernel_rfl) (h1) rfl rfl ?_
    refine wo_n rfl (nv_assign rfl rfl) rfl rfl ?_
    refine wo_nil ?_
    refine thenW_n ?_
    refine wc_ret ?_
    refine thenW_r ?_
    refine endW_ret rfl rfl ?_
    exact ⟨rfl, A1⟩
  · rw [if_neg h3] at hr
    obtain ⟨a0, A, hr0, hr⟩ := bindR_some hr
    have hl3 : l < 3 := by omega
    obtain ⟨m1, h1, A1⟩ := A0.step fun _ _ r => (hS n (Nat.le_refl _)).level (l := l + 1) (by omega) r hr0
    obtain ⟨m2, h2, A2⟩ := A1.step fun _ _ r => prim_spec (xb := xb) hX r hl3
    refine ev_of (fun m => hX.no _ _ m (by decide)) Tryd.func30 rfl rfl ?_
    refine wc_seq ?_
    refine wc_region ?_
    refine wo_n rfl (nv_assign rfl rfl) rfl rfl ?_
    refine wo_nil ?_
    refine thenW_n ?_
    refine wc_seq ?_
    refine wc_seq ?_
    refine wc_region ?_
    refine wo_n rfl (nv_move rfl rfl) rfl rfl ?_
    refine wo_call rfl rfl (by kernel_rfl) (hlv') rfl rfl ?_
    first
      | refine wo_n rfl (nv_lenS rfl rfl rfl) rfl rfl ?_
      | refine wo_n rfl (nv_lenN rfl rfl rfl) rfl rfl ?_
      | refine wo_n rfl (nv_lenR (by assumption) rfl rfl rfl) rfl rfl ?_
    refine wo_n rfl (nv_eqlF rfl rfl rfl (by first | assumption | decide | omega)) rfl rfl ?_
    refine wo_nil ?_
    refine thenW_n ?_
    refine wc_false rfl ?_
    refine wc_skip ?_
    refine thenW_n ?_
    refine wc_seq ?_
    refine wc_region ?_
    refine wo_n rfl (nv_move rfl rfl) rfl rfl ?_
    refine wo_n rfl (nv_move rfl rfl) rfl rfl ?_
    refine wo_n rfl (nv_add rfl rfl rfl rfl (by first | decide | omega) (by first | decide | omega)) rfl rfl ?_
    refine wo_call rfl rfl (by kernel_rfl) (h1) rfl rfl ?_
    refine wo_n rfl (nv_assign rfl rfl) rfl rfl ?_
    refine wo_nil ?_
    refine thenW_n ?_
    refine wc_seq ?_
    refine wc_seq ?_
    refine wc_region ?_
    refine wo_n rfl (nv_move rfl rfl) rfl rfl ?_
    refine wo_n rfl (nv_move rfl rfl) rfl rfl ?_
    refine wo_call rfl rfl (by kernel_rfl) (h2) rfl rfl ?_
    refine wo_n rfl (nv_assign rfl rfl) rfl rfl ?_
    refine wo_nil ?_
    refine thenW_n ?_
    refine wc_block ?_
    refine wc_loop (fun k e m' => k ≤ n ∧ ∃ a P', ELe (envL [(0, .ptr pb 0), (1, .int .i64 (l : Nat)), (5, .int .i64 a), (6, .int .i64 (primI l P'))]) e ∧ Post m E pb oN oO m' P' ∧ run E k (.more l a) P' = some (v, Q)) n ⟨Nat.le_refl _, a0, A, ?_, A2, hr⟩ ?_
    · exact .cons rfl (.cons rfl (.cons rfl (.cons rfl (.nil _))))
    rintro k e mk ⟨hk, a, P', he, Ak, hrk⟩
    refine Wc.weak ?_ he
    clear he
    cases k with
    | zero => simp [run] at hrk
    | succ k =>
    simp only [run] at hrk
    cases hp : prim l P' with
    | none =>
      rw [hp] at hrk
      cases hrk
      have hpi := primI_none hp
      refine wc_seq ?_
      refine wc_seq ?_
      refine wc_region ?_
      refine wo_n rfl (nv_move rfl rfl) rfl rfl ?_
      refine wo_n rfl (nv_geqF rfl rfl rfl (by first | assumption | decide | omega)) rfl rfl ?_
      refine wo_nil ?_
      refine thenW_n ?_
      refine wc_false rfl ?_
      refine wc_exit ?_
      refine thenW_x ?_
      refine blockW_x ?_
      refine thenW_n ?_
      refine wc_seq ?_
      refine wc_region ?_
      refine wo_n rfl (nv_move rfl rfl) rfl rfl ?_
      refine wo_n rfl (nv_assign rfl rfl) rfl rfl ?_
      refine wo_nil ?_
      refine thenW_n ?_
      refine wc_ret ?_
      refine endW_ret rfl rfl ?_
      exact ⟨rfl, Ak⟩
    | some kk =>
      rw [hp] at hrk
      obtain ⟨b, B, hb, hrk⟩ := bindR_some hrk
      have hpi := primI_some hp
      have hge := prim_le hp
      obtain ⟨t, r, hT⟩ : ∃ t r, P'.toks = t :: r := by
        cases hc : P'.toks with
        | nil => exact absurd hc (prim_toks hp)
        | cons t r => exact ⟨t, r, rfl⟩
      obtain ⟨aN, aO, r0, f0, s0⟩ := Ak
      have hh := here_spec (xb := xb) hX.no r0
      have A' : Post m E pb oN oO mk P' := ⟨aN, aO, r0, f0, s0⟩
      by_cases hl0 : l = 0
      · rw [if_pos hl0] at hrk
        obtain ⟨rfl, rfl⟩ := put_eq hrk
        refine wc_seq ?_
        refine wc_seq ?_
        refine wc_region ?_
        refine wo_n rfl (nv_move rfl rfl) rfl rfl ?_
        refine wo_n rfl (nv_geqT rfl rfl rfl (by first | assumption | decide | omega)) rfl rfl ?_
        refine wo_nil ?_
        refine thenW_n ?_
        refine wc_true rfl ?_
        refine wc_skip ?_
        refine thenW_n ?_
        refine wc_seq ?_
        refine wc_block ?_
        refine wc_seq ?_
        refine wc_region ?_
        refine wo_n rfl (nv_move rfl rfl) rfl rfl ?_
        refine wo_n rfl (nv_move rfl rfl) rfl rfl ?_
        refine wo_n rfl (nv_move rfl rfl) rfl rfl ?_
        refine wo_call rfl rfl (by kernel_rfl) (hh) rfl rfl ?_
        refine wo_n rfl (nv_buildS rfl rfl rfl) rfl rfl ?_
        refine wo_alloc rfl rfl rfl rfl ?_
        intro g1 m1 o1 f1 l1
        have w1 := Wx.start A' o1 f1 l1
        refine wo_store rfl rfl rfl rfl (by assumption) rfl rfl (Nat.le_of_ble_eq_true rfl) rfl ?_
        intro m2 o2 f2 n2
        have w2 : W0 m E pb oN oO g1 { k := 8, num := primI l P', a := a, at_ := here E P' } m2 P' := w1.store o2 f2
        obtain ⟨bN, bO, r2, hn2, s2⟩ := w2.p
        obtain ⟨tb, toff, tn, tc, tov, tnv, tev, hp2, hn1, hn2'⟩ := r2.first hT
        have c2 := hp2.obj.cell (i := 0) rfl
        have q2 := hp2.obj
        refine wo_nil ?_
        refine thenW_n ?_
        refine wc_seq ?_
        refine wc_region ?_
        refine wo_n rfl (nv_move rfl rfl) rfl rfl ?_
        refine wo_n rfl (nv_move rfl rfl) rfl rfl ?_
        refine wo_n rfl (nv_nil rfl rfl rfl) rfl rfl ?_
        refine wo_n rfl (nv_fa rfl rfl) rfl rfl ?_
        refine wo_m rfl (mv_load rfl rfl (by assumption)) rfl rfl ?_
        refine wo_n rfl (nv_slice rfl rfl rfl rfl (slice_from (l := 1) (by first | assumption | omega) (by first | assumption | omega))) rfl rfl ?_
        refine wo_n rfl (nv_nil rfl rfl rfl) rfl rfl ?_
        refine wo_n rfl (nv_fa rfl rfl) rfl rfl ?_
        refine wo_store rfl rfl rfl rfl (by assumption) rfl rfl (Nat.le_of_ble_eq_true rfl) rfl ?_
        intro m3 o3 f3 n3
        have w3 : W0 m E pb oN oO g1 { k := 8, num := primI l P', a := a, at_ := here E P' } m3 (drop1 P') := w2.to hn2 s2 (dropR r2 hp2 hT o3 f3)
        obtain ⟨m4', h4, w4, l4⟩ := w3.call fun _ _ r => (hS k (by omega)).level (l := l + 1) (by omega) r hb
        have b4 := w4.b
        refine wo_nil ?_
        refine thenW_n ?_
        refine wc_seq ?_
        refine wc_region ?_
        refine wo_n rfl (nv_move rfl rfl) rfl rfl ?_
        refine wo_n rfl (nv_move rfl rfl) rfl rfl ?_
        refine wo_n rfl (nv_add rfl rfl rfl rfl (by first | decide | omega) (by first | decide | omega)) rfl rfl ?_
        refine wo_call rfl rfl (by kernel_rfl) (h4) rfl rfl ?_
        refine wo_n rfl (nv_fa rfl rfl) rfl rfl ?_
        refine wo_store rfl rfl rfl rfl (by assumption) rfl rfl (Nat.le_of_ble_eq_true rfl) rfl ?_
        intro m4 o4 f4 n4
        have w5 : W0 m E pb oN oO g1 { k := 8, num := primI l P', a := a, b := b, at_ := here E P' } m4 B := w4.store o4 f4
        have x5 := w5.b.rowAll (n := 10) rfl
        obtain ⟨m6', h6, w6, l6⟩ := w5.call fun _ _ r => put_spec (xb := xb) hX.no r { k := 8, num := primI l P', a := a, b := b, at_ := here E P' }
        refine wo_nil ?_
        refine thenW_n ?_
        refine wc_seq ?_
        refine wc_region ?_
        refine wo_n rfl (nv_move rfl rfl) rfl rfl ?_
        refine wo_m rfl (mv_loadA rfl rfl (by assumption)) rfl rfl ?_
        refine wo_call rfl rfl (by kernel_rfl) (h6) rfl rfl ?_
        refine wo_n rfl (nv_assign rfl rfl) rfl rfl ?_
        refine wo_nil ?_
        refine thenW_n ?_
        refine wc_seq ?_
        refine wc_region ?_
        refine wo_n rfl (nv_move rfl rfl) rfl rfl ?_
        refine wo_n rfl (nv_eqlT rfl rfl rfl (by first | assumption | decide | omega)) rfl rfl ?_
        refine wo_nil ?_
        refine thenW_n ?_
        refine wc_true rfl ?_
        refine wc_exit ?_
        refine blockW_y rfl ?_
        refine thenW_x ?_
        refine blockW_x ?_
        refine thenW_n ?_
        refine wc_seq ?_
        refine wc_region ?_
        refine wo_n rfl (nv_move rfl rfl) rfl rfl ?_
        refine wo_n rfl (nv_assign rfl rfl) rfl rfl ?_
        refine wo_nil ?_
        refine thenW_n ?_
        refine wc_ret ?_
        refine endW_ret rfl rfl ?_
        rw [hpi] at w6
        exact ⟨by first | rfl | rw [hpi], w6.done⟩
      · rw [if_neg hl0] at hrk
        refine wc_seq ?_
        refine wc_seq ?_
        refine wc_region ?_
        refine wo_n rfl (nv_move rfl rfl) rfl rfl ?_
        refine wo_n rfl (nv_geqT rfl rfl rfl (by first | assumption | decide | omega)) rfl rfl ?_
        refine wo_nil ?_
        refine thenW_n ?_
        refine wc_true rfl ?_
        refine wc_skip ?_
        refine thenW_n ?_
        refine wc_seq ?_
        refine wc_block ?_
        refine wc_seq ?_
        refine wc_region ?_
        refine wo_n rfl (nv_move rfl rfl) rfl rfl ?_
        refine wo_n rfl (nv_move rfl rfl) rfl rfl ?_
        refine wo_n rfl (nv_move rfl rfl) rfl rfl ?_
        refine wo_call rfl rfl (by kernel_rfl) (hh) rfl rfl ?_
        refine wo_n rfl (nv_buildS rfl rfl rfl) rfl rfl ?_
        refine wo_alloc rfl rfl rfl rfl ?_
        intro g1 m1 o1 f1 l1
        have w1 := Wx.start A' o1 f1 l1
        refine wo_store rfl rfl rfl rfl (by assumption) rfl rfl (Nat.le_of_ble_eq_true rfl) rfl ?_
        intro m2 o2 f2 n2
        have w2 : W0 m E pb oN oO g1 { k := 8, num := primI l P', a := a, at_ := here E P' } m2 P' := w1.store o2 f2
        obtain ⟨bN, bO, r2, hn2, s2⟩ := w2.p
        obtain ⟨tb, toff, tn, tc, tov, tnv, tev, hp2, hn1, hn2'⟩ := r2.first hT
        have c2 := hp2.obj.cell (i := 0) rfl
        have q2 := hp2.obj
        refine wo_nil ?_
        refine thenW_n ?_
        refine wc_seq ?_
        refine wc_region ?_
        refine wo_n rfl (nv_move rfl rfl) rfl rfl ?_
        refine wo_n rfl (nv_move rfl rfl) rfl rfl ?_
        refine wo_n rfl (nv_nil rfl rfl rfl) rfl rfl ?_
        refine wo_n rfl (nv_fa rfl rfl) rfl rfl ?_
        refine wo_m rfl (mv_load rfl rfl (by assumption)) rfl rfl ?_
        refine wo_n rfl (nv_slice rfl rfl rfl rfl (slice_from (l := 1) (by first | assumption | omega) (by first | assumption | omega))) rfl rfl ?_
        refine wo_n rfl (nv_nil rfl rfl rfl) rfl rfl ?_
        refine wo_n rfl (nv_fa rfl rfl) rfl rfl ?_
        refine wo_store rfl rfl rfl rfl (by assumption) rfl rfl (Nat.le_of_ble_eq_true rfl) rfl ?_
        intro m3 o3 f3 n3
        have w3 : W0 m E pb oN oO g1 { k := 8, num := primI l P', a := a, at_ := here E P' } m3 (drop1 P') := w2.to hn2 s2 (dropR r2 hp2 hT o3 f3)
        obtain ⟨m4', h4, w4, l4⟩ := w3.call fun _ _ r => (hS k (by omega)).level (l := l + 1) (by omega) r hb
        have b4 := w4.b
        refine wo_nil ?_
        refine thenW_n ?_
        refine wc_seq ?_
        refine wc_region ?_
        refine wo_n rfl (nv_move rfl rfl) rfl rfl ?_
        refine wo_n rfl (nv_move rfl rfl) rfl rfl ?_
        refine wo_n rfl (nv_add rfl rfl rfl rfl (by first | decide | omega) (by first | decide | omega)) rfl rfl ?_
        refine wo_call rfl rfl (by kernel_rfl) (h4) rfl rfl ?_
        refine wo_n rfl (nv_fa rfl rfl) rfl rfl ?_
        refine wo_store rfl rfl rfl rfl (by assumption) rfl rfl (Nat.le_of_ble_eq_true rfl) rfl ?_
        intro m4 o4 f4 n4
        have w5 : W0 m E pb oN oO g1 { k := 8, num := primI l P', a := a, b := b, at_ := here E P' } m4 B := w4.store o4 f4
        have x5 := w5.b.rowAll (n := 10) rfl
        obtain ⟨m6', h6, w6, l6⟩ := w5.call fun _ _ r => put_spec (xb := xb) hX.no r { k := 8, num := primI l P', a := a, b := b, at_ := here E P' }
        refine wo_nil ?_
        refine thenW_n ?_
        refine wc_seq ?_
        refine wc_region ?_
        refine wo_n rfl (nv_move rfl rfl) rfl rfl ?_
        refine wo_m rfl (mv_loadA rfl rfl (by assumption)) rfl rfl ?_
        refine wo_call rfl rfl (by kernel_rfl) (h6) rfl rfl ?_
        refine wo_n rfl (nv_assign rfl rfl) rfl rfl ?_
        refine wo_nil ?_
        refine thenW_n ?_
        refine wc_seq ?_
        refine wc_region ?_
        refine wo_n rfl (nv_move rfl rfl) rfl rfl ?_
        refine wo_n rfl (nv_eqlF rfl rfl rfl (by first | assumption | decide | omega)) rfl rfl ?_
        refine wo_nil ?_
        refine thenW_n ?_
        refine wc_false rfl ?_
        refine wc_skip ?_
        refine blockW_n ?_
        refine thenW_n ?_
        refine wc_region ?_
        refine wo_n rfl (nv_move rfl rfl) rfl rfl ?_
        refine wo_n rfl (nv_move rfl rfl) rfl rfl ?_
        obtain ⟨m7', h7, A7⟩ := w6.done.step fun _ _ r => prim_spec (xb := xb) hX r hl3
        refine wo_call rfl rfl (by kernel_rfl) (h7) rfl rfl ?_
        refine wo_n rfl (nv_assign rfl rfl) rfl rfl ?_
        refine wo_nil ?_
        rw [hpi] at A7
        refine ⟨k, Nat.lt_succ_self _, by omega, _, _, ?_, A7, hrk⟩
        try rw [hpi]
        exact .cons rfl (.cons rfl (.cons rfl (.cons rfl (.nil _))))
end
end Go.Proofs.YtoedpbjeangdhaaDoor.Sy

namespace Go.Proofs.YtoedpbjeangdhaaDoor.Sy
open Go Go.Ev Go.Ev.Pm
set_option linter.unusedVariables false
set_option linter.unusedSimpArgs false
set_option linter.unusedSectionVars false
section
variable {m m' : Mem} {E : Int} {pb : Nat} {oN oO : Nat → Prop} {P P' : PS} {xb : XB} {ext : CallF} (hX : XH ext) {n : Nat} {v : Int} {Q : PS}
include hX
set_option maxHeartbeats 2000000 in
theorem apply_spec (hS : ∀ k, k ≤ n → SpecN xb ext E pb k) (h : Rep m E pb oN oO P) (hr : run E (n + 1) .apply P = some (v, Q)) : ∃ m', Ev Tryd.prog xb ext 45 [.ptr pb 0] m (.int .i64 v) m' ∧ Post m E pb oN oO m' Q := by
  simp only [run] at hr
  have hh := here_spec (xb := xb) hX.no h
  refine ev_to ?_
  cases hs : is P kdo with
  | true =>
    rw [hs] at hr
    obtain ⟨a, A, h1, hr⟩ := bindR_some hr
    refine ev_of (fun m => hX.no _ _ m (by decide)) Tryd.func45 rfl rfl ?_
    refine wc_seq ?_
    refine wc_region ?_
    refine wo_n rfl (nv_assign rfl rfl) rfl rfl ?_
    refine wo_nil ?_
    refine thenW_n ?_
    refine wc_seq ?_
    refine wc_region ?_
    refine wo_n rfl (nv_move rfl rfl) rfl rfl ?_
    refine wo_call rfl rfl (by kernel_rfl) (hh) rfl rfl ?_
    refine wo_n rfl (nv_buildS rfl rfl rfl) rfl rfl ?_
    refine wo_alloc rfl rfl rfl rfl ?_
    intro g1 m1 o1 f1 l1
    have w1 := Wx.start (.refl h) o1 f1 l1
    refine wo_store rfl rfl rfl rfl (by assumption) rfl rfl (Nat.le_of_ble_eq_true rfl) rfl ?_
    intro m2 o2 f2 n2
    have w2 : W0 m E pb oN oO g1 { at_ := here E P } m2 P := w1.store o2 f2
    refine wo_nil ?_
    refine thenW_n ?_
    refine wc_seq ?_
    refine wc_seq ?_
    refine wc_region ?_
    refine wo_n rfl (nv_move rfl rfl) rfl rfl ?_
    obtain ⟨m3, h3, w3, l3⟩ := w2.call fun _ _ r => take_true (xb := xb) hX r kdo hs
    refine wo_call rfl rfl (by kernel_rfl) (h3) rfl rfl ?_
    refine wo_nil ?_
    refine thenW_n ?_
    refine wc_true rfl ?_
    refine wc_seq ?_
    refine wc_region ?_
    refine wo_n rfl (nv_move rfl rfl) rfl rfl ?_
    obtain ⟨m4, h4, w4, l4⟩ := w3.call fun _ _ r => name_spec (xb := xb) hX.no r
    have b4 := w4.b
    refine wo_call rfl rfl (by kernel_rfl) (h4) rfl rfl ?_
    refine wo_n rfl (nv_fa rfl rfl) rfl rfl ?_
    refine wo_store rfl rfl rfl rfl (by assumption) rfl rfl (Nat.le_of_ble_eq_true rfl) rfl ?_
    intro m3 o3 f3 n3
    have w5 : W0 m E pb oN oO g1 { k := 9, at_ := here E P } m3 _ := w4.store o3 f3
    refine wo_n rfl (nv_fa rfl rfl) rfl rfl ?_
    refine wo_store rfl rfl rfl rfl (by assumption) rfl rfl (Nat.le_of_ble_eq_true rfl) rfl ?_
    intro m4 o4 f4 n4
    have w6 : W0 m E pb oN oO g1 { k := 9, nm := (name E (drop1 P)).1, at_ := here E P } m4 _ := w5.store o4 f4
    refine wo_nil ?_
    refine thenW_n ?_
    refine wc_seq ?_
    refine wc_region ?_
    refine wo_n rfl (nv_move rfl rfl) rfl rfl ?_
    obtain ⟨m7, h7, w7, l7⟩ := w6.call fun _ _ r => (hS n (Nat.le_refl _)).atom r h1
    have b7 := w7.b
    refine wo_call rfl rfl (by kernel_rfl) (h7) rfl rfl ?_
    refine wo_n rfl (nv_fa rfl rfl) rfl rfl ?_
    refine wo_store rfl rfl rfl rfl (by assumption) rfl rfl (Nat.le_of_ble_eq_true rfl) rfl ?_
    intro m5 o5 f5 n5
    have w8 : W0 m E pb oN oO g1 { k := 9, nm := (name E (drop1 P)).1, a := a, at_ := here E P } m5 _ := w7.store o5 f5
    have c8 : m5.cell g1 9 = some (.int .i64 (here E P)) := w8.b.cell (i := 9) rfl
    have x8 := w8.b.rowAll (n := 10) rfl
    refine wo_nil ?_
    refine thenW_n ?_
    refine wc_draw (by kernel_rfl) ?_
    refine wd_cast (l' := [0, 1, 2, 3, 4, 5, 6]) (by kernel_rfl) rfl ?_
    refine wd_n rfl rfl rfl (nv_fa rfl rfl) rfl rfl ?_
    refine wd_load rfl rfl rfl rfl (by assumption) rfl rfl ?_
    refine wd_n rfl rfl rfl (nv_move rfl rfl) rfl rfl ?_
    refine wd_loadA rfl rfl rfl rfl (by assumption) rfl rfl ?_
    obtain ⟨m9, h9, w9, l9⟩ := w8.call fun _ _ r => put_spec (xb := xb) hX.no r { k := 9, nm := (name E (drop1 P)).1, a := a, at_ := here E P }
    have b9 := w9.b
    refine wd_call1 (i1 := 1) (t1 := 3) rfl rfl rfl (by kernel_rfl) (h9) (l9) ((show m9.cell g1 (0 + 9) = some (.int .i64 (here E P)) from w9.b.cell (i := 9) rfl)) (by kernel_rfl) (by kernel_rfl) rfl rfl ?_
    refine wd_n rfl rfl rfl (nv_buildS rfl rfl rfl) rfl rfl ?_
    refine wd_store rfl rfl rfl rfl rfl (by assumption) rfl rfl (Nat.le_of_ble_eq_true rfl) (by kernel_rfl) (by kernel_rfl) rfl ?_
    intro m7 o7 f7 n7
    have w10 : W0 m E pb oN oO g1 { a := (put E { k := 9, nm := (name E (drop1 P)).1, a := a, at_ := here E P } A).1, at_ := here E P } m7 _ := w9.store o7 f7
    refine wd_nil ?_
    refine thenW_n ?_
    refine wc_seq ?_
    refine wc_block ?_
    refine wc_loop (fun k e m' => k ≤ n ∧ ∃ k0 a b nm P', ELe (envL [(0, .ptr pb 0), (3, .ptr g1 0)]) e ∧ W0 m E pb oN oO g1 { k := k0, a := a, b := b, nm := nm, at_ := here E P } m' P' ∧ (b = 0 ∨ True) ∧ nm = ByteArray.empty ∧ run E k (.apps (here E P) a) P' = some (v, Q)) n ⟨Nat.le_refl _, _, _, 0, ByteArray.empty, _, .cons rfl (.cons rfl (.nil _)), w10, .inl rfl, rfl, hr⟩ ?_
    rintro k e mk ⟨hk, k1, a1, b1, nm, P2, he, w, _, rfl, hrk⟩
    refine Wc.weak ?_ he
    clear he
    cases k with
    | zero => simp [run] at hrk
    | succ k =>
    simp only [run] at hrk
    obtain ⟨aN, aO, r0, hn0, s0⟩ := w.p
    have hst := starts_spec (xb := xb) hX r0
    cases hs2 : starts P2 with
    | false =>
      rw [hs2] at hrk hst
      cases hrk
      have c1 : mk.cell g1 1 = some (.int .i64 v) := w.b.cell (i := 1) rfl
      refine wc_seq ?_
      refine wc_seq ?_
      refine wc_region ?_
      refine wo_n rfl (nv_move rfl rfl) rfl rfl ?_
      refine wo_call rfl rfl (by kernel_rfl) (hst) rfl rfl ?_
      refine wo_nil ?_
      refine thenW_n ?_
      refine wc_false rfl ?_
      refine wc_exit ?_
      refine thenW_x ?_
      refine blockW_x ?_
      refine thenW_n ?_
      refine wc_seq ?_
      refine wc_region ?_
      refine wo_n rfl (nv_fa rfl rfl) rfl rfl ?_
      refine wo_m rfl (mv_load rfl rfl (by assumption)) rfl rfl ?_
      refine wo_n rfl (nv_assign rfl rfl) rfl rfl ?_
      refine wo_nil ?_
      refine thenW_n ?_
      refine wc_ret ?_
      refine endW_ret rfl rfl ?_
      exact ⟨rfl, w.done⟩
    | true =>
      rw [hs2] at hrk hst
      obtain ⟨b, B, hb, hrk⟩ := bindR_some hrk
      obtain ⟨n1', u1, v1, t1⟩ := w.call fun _ _ r => (hS k (by omega)).atom r hb
      have bb1 := v1.b
      refine wc_seq ?_
      refine wc_seq ?_
      refine wc_region ?_
      refine wo_n rfl (nv_move rfl rfl) rfl rfl ?_
      refine wo_call rfl rfl (by kernel_rfl) (hst) rfl rfl ?_
      refine wo_nil ?_
      refine thenW_n ?_
      refine wc_true rfl ?_
      refine wc_skip ?_
      refine thenW_n ?_
      refine wc_block ?_
      refine wc_seq ?_
      refine wc_region ?_
      refine wo_n rfl (nv_move rfl rfl) rfl rfl ?_
      refine wo_call rfl rfl (by kernel_rfl) (u1) rfl rfl ?_
      refine wo_n rfl (nv_fa rfl rfl) rfl rfl ?_
      refine wo_store rfl rfl rfl rfl (by assumption) rfl rfl (Nat.le_of_ble_eq_true rfl) rfl ?_
      intro m1 o1 f1 n1
      have v2 : W0 m E pb oN oO g1 { k := 4, a := a1, b := b1, at_ := here E P } m1 B := v1.store o1 f1
      refine wo_n rfl (nv_fa rfl rfl) rfl rfl ?_
      refine wo_store rfl rfl rfl rfl (by assumption) rfl rfl (Nat.le_of_ble_eq_true rfl) rfl ?_
      intro m2 o2 f2 n2
      have v3 : W0 m E pb oN oO g1 { k := 4, a := a1, b := b, at_ := here E P } m2 B := v2.store o2 f2
      have x3 := v3.b.rowAll (n := 10) rfl
      refine wo_nil ?_
      refine thenW_n ?_
      refine wc_region ?_
      refine wo_n rfl (nv_move rfl rfl) rfl rfl ?_
      refine wo_m rfl (mv_loadA rfl rfl (by assumption)) rfl rfl ?_
      obtain ⟨n4', u4, v4, t4⟩ := v3.call fun _ _ r => put_spec (xb := xb) hX.no r { k := 4, a := a1, b := b, at_ := here E P }
      have bb4 := v4.b
      refine wo_call rfl rfl (by kernel_rfl) (u4) rfl rfl ?_
      refine wo_n rfl (nv_fa rfl rfl) rfl rfl ?_
      refine wo_store rfl rfl rfl rfl (by assumption) rfl rfl (Nat.le_of_ble_eq_true rfl) rfl ?_
      intro m3 o3 f3 n3
      have v5 : W0 m E pb oN oO g1 { k := 4, a := (put E { k := 4, a := a1, b := b, at_ := here E P } B).1, b := b, at_ := here E P } m3 _ := v4.store o3 f3
      refine wo_nil ?_
      refine blockW_n ?_
      exact ⟨k, Nat.lt_succ_self _, by omega, _, _, _, _, _, .cons rfl (.cons rfl (.nil _)), v5, .inr trivial, rfl, hrk⟩
  | false =>
    rw [hs] at hr
    obtain ⟨a, A, h1, hr⟩ := bindR_some hr
    refine ev_of (fun m => hX.no _ _ m (by decide)) Tryd.func45 rfl rfl ?_
    refine wc_seq ?_
    refine wc_region ?_
    refine wo_n rfl (nv_assign rfl rfl) rfl rfl ?_
    refine wo_nil ?_
    refine thenW_n ?_
    refine wc_seq ?_
    refine wc_region ?_
    refine wo_n rfl (nv_move rfl rfl) rfl rfl ?_
    refine wo_call rfl rfl (by kernel_rfl) (hh) rfl rfl ?_
    refine wo_n rfl (nv_buildS rfl rfl rfl) rfl rfl ?_
    refine wo_alloc rfl rfl rfl rfl ?_
    intro g1 m1 o1 f1 l1
    have w1 := Wx.start (.refl h) o1 f1 l1
    refine wo_store rfl rfl rfl rfl (by assumption) rfl rfl (Nat.le_of_ble_eq_true rfl) rfl ?_
    intro m2 o2 f2 n2
    have w2 : W0 m E pb oN oO g1 { at_ := here E P } m2 P := w1.store o2 f2
    refine wo_nil ?_
    refine thenW_n ?_
    refine wc_seq ?_
    refine wc_seq ?_
    refine wc_region ?_
    refine wo_n rfl (nv_move rfl rfl) rfl rfl ?_
    obtain ⟨m3, h3, w3, l3⟩ := w2.call fun _ _ r => take_false (xb := xb) hX r kdo hs
    refine wo_call rfl rfl (by kernel_rfl) (h3) rfl rfl ?_
    refine wo_nil ?_
    refine thenW_n ?_
    refine wc_false rfl ?_
    refine wc_region ?_
    refine wo_n rfl (nv_move rfl rfl) rfl rfl ?_
    obtain ⟨m7, h7, w7, l7⟩ := w3.call fun _ _ r => (hS n (Nat.le_refl _)).atom r h1
    have b7 := w7.b
    refine wo_call rfl rfl (by kernel_rfl) (h7) rfl rfl ?_
    refine wo_n rfl (nv_fa rfl rfl) rfl rfl ?_
    refine wo_store rfl rfl rfl rfl (by assumption) rfl rfl (Nat.le_of_ble_eq_true rfl) rfl ?_
    intro m3 o3 f3 n3
    have w8 : W0 m E pb oN oO g1 { a := a, at_ := here E P } m3 _ := w7.store o3 f3
    refine wo_nil ?_
    refine thenW_n ?_
    refine wc_seq ?_
    refine wc_block ?_
    refine wc_loop (fun k e m' => k ≤ n ∧ ∃ k0 a b nm P', ELe (envL [(0, .ptr pb 0), (3, .ptr g1 0)]) e ∧ W0 m E pb oN oO g1 { k := k0, a := a, b := b, nm := nm, at_ := here E P } m' P' ∧ (b = 0 ∨ True) ∧ nm = ByteArray.empty ∧ run E k (.apps (here E P) a) P' = some (v, Q)) n ⟨Nat.le_refl _, _, _, 0, ByteArray.empty, _, .cons rfl (.cons rfl (.nil _)), w8, .inl rfl, rfl, hr⟩ ?_
    rintro k e mk ⟨hk, k1, a1, b1, nm, P2, he, w, _, rfl, hrk⟩
    refine Wc.weak ?_ he
    clear he
    cases k with
    | zero => simp [run] at hrk
    | succ k =>
    simp only [run] at hrk
    obtain ⟨aN, aO, r0, hn0, s0⟩ := w.p
    have hst := starts_spec (xb := xb) hX r0
    cases hs2 : starts P2 with
    | false =>
      rw [hs2] at hrk hst
      cases hrk
      have c1 : mk.cell g1 1 = some (.int .i64 v) := w.b.cell (i := 1) rfl
      refine wc_seq ?_
      refine wc_seq ?_
      refine wc_region ?_
      refine wo_n rfl (nv_move rfl rfl) rfl rfl ?_
      refine wo_call rfl rfl (by kernel_rfl) (hst) rfl rfl ?_
      refine wo_nil ?_
      refine thenW_n ?_
      refine wc_false rfl ?_
      refine wc_exit ?_
      refine thenW_x ?_
      refine blockW_x ?_
      refine thenW_n ?_
      refine wc_seq ?_
      refine wc_region ?_
      refine wo_n rfl (nv_fa rfl rfl) rfl rfl ?_
      refine wo_m rfl (mv_load rfl rfl (by assumption)) rfl rfl ?_
      refine wo_n rfl (nv_assign rfl rfl) rfl rfl ?_
      refine wo_nil ?_
      refine thenW_n ?_
      refine wc_ret ?_
      refine endW_ret rfl rfl ?_
      exact ⟨rfl, w.done⟩
    | true =>
      rw [hs2] at hrk hst
      obtain ⟨b, B, hb, hrk⟩ := bindR_some hrk
      obtain ⟨n1', u1, v1, t1⟩ := w.call fun _ _ r => (hS k (by omega)).atom r hb
      have bb1 := v1.b
      refine wc_seq ?_
      refine wc_seq ?_
      refine wc_region ?_
      refine wo_n rfl (nv_move rfl rfl) rfl rfl ?_
      refine wo_call rfl rfl (by kernel_rfl) (hst) rfl rfl ?_
      refine wo_nil ?_
      refine thenW_n ?_
      refine wc_true rfl ?_
      refine wc_skip ?_
      refine thenW_n ?_
      refine wc_block ?_
      refine wc_seq ?_
      refine wc_region ?_
      refine wo_n rfl (nv_move rfl rfl) rfl rfl ?_
      refine wo_call rfl rfl (by kernel_rfl) (u1) rfl rfl ?_
      refine wo_n rfl (nv_fa rfl rfl) rfl rfl ?_
      refine wo_store rfl rfl rfl rfl (by assumption) rfl rfl (Nat.le_of_ble_eq_true rfl) rfl ?_
      intro m1 o1 f1 n1
      have v2 : W0 m E pb oN oO g1 { k := 4, a := a1, b := b1, at_ := here E P } m1 B := v1.store o1 f1
      refine wo_n rfl (nv_fa rfl rfl) rfl rfl ?_
      refine wo_store rfl rfl rfl rfl (by assumption) rfl rfl (Nat.le_of_ble_eq_true rfl) rfl ?_
      intro m2 o2 f2 n2
      have v3 : W0 m E pb oN oO g1 { k := 4, a := a1, b := b, at_ := here E P } m2 B := v2.store o2 f2
      have x3 := v3.b.rowAll (n := 10) rfl
      refine wo_nil ?_
      refine thenW_n ?_
      refine wc_region ?_
      refine wo_n rfl (nv_move rfl rfl) rfl rfl ?_
      refine wo_m rfl (mv_loadA rfl rfl (by assumption)) rfl rfl ?_
      obtain ⟨n4', u4, v4, t4⟩ := v3.call fun _ _ r => put_spec (xb := xb) hX.no r { k := 4, a := a1, b := b, at_ := here E P }
      have bb4 := v4.b
      refine wo_call rfl rfl (by kernel_rfl) (u4) rfl rfl ?_
      refine wo_n rfl (nv_fa rfl rfl) rfl rfl ?_
      refine wo_store rfl rfl rfl rfl (by assumption) rfl rfl (Nat.le_of_ble_eq_true rfl) rfl ?_
      intro m3 o3 f3 n3
      have v5 : W0 m E pb oN oO g1 { k := 4, a := (put E { k := 4, a := a1, b := b, at_ := here E P } B).1, b := b, at_ := here E P } m3 _ := v4.store o3 f3
      refine wo_nil ?_
      refine blockW_n ?_
      exact ⟨k, Nat.lt_succ_self _, by omega, _, _, _, _, _, .cons rfl (.cons rfl (.nil _)), v5, .inr trivial, rfl, hrk⟩
end
end Go.Proofs.YtoedpbjeangdhaaDoor.Sy

namespace Go.Proofs.YtoedpbjeangdhaaDoor.Sy
open Go Go.Ev Go.Ev.Pm
set_option linter.unusedVariables false
set_option linter.unusedSimpArgs false
set_option linter.unusedSectionVars false
section
variable {m m' : Mem} {E : Int} {pb : Nat} {oN oO : Nat → Prop} {P P' : PS} {xb : XB} {ext : CallF} (hX : XH ext) {n : Nat} (hS : SpecN xb ext E pb n) {v : Int} {Q : PS}
include hX hS
set_option maxHeartbeats 2000000 in
theorem handle_spec {g : Nat} {at_ : Int} {mh : Mem} (w : W0 m E pb oN oO g { at_ := at_ } mh P) {x : Nd} (hr : handleM E (run E n .inner) at_ P = some (x, Q)) :
    ∃ m', Ev Tryd.prog xb ext 67 [.ptr pb 0, .ptr g 0] mh (.tup []) m' ∧ W0 m E pb oN oO g x m' Q ∧ mh.next ≤ m'.next := by
  unfold handleM at hr
  split at hr
  · cases hr
  rename_i a A h1
  dsimp only at hr
  split at hr
  · cases hr
  rename_i b B h2
  split at hr
  · cases hr
  rename_i c C h3
  cases hr
  obtain ⟨n1, k1, w1, l1⟩ := w.call fun _ _ r => hS.inner r h1
  have b1 := w1.b
  refine ev_to ?_
  refine ev_of (fun m => hX.no _ _ m (by decide)) Tryd.func67 rfl rfl ?_
  refine wc_seq ?_
  refine wc_region ?_
  refine wo_n rfl (nv_move rfl rfl) rfl rfl ?_
  refine wo_n rfl (nv_move rfl rfl) rfl rfl ?_
  refine wo_n rfl (nv_move rfl rfl) rfl rfl ?_
  refine wo_call rfl rfl (by kernel_rfl) (k1) rfl rfl ?_
  refine wo_n rfl (nv_nil rfl rfl rfl) rfl rfl ?_
  refine wo_n rfl (nv_fa rfl rfl) rfl rfl ?_
  refine wo_store rfl rfl rfl rfl (by assumption) rfl rfl (Nat.le_of_ble_eq_true rfl) rfl ?_
  intro m1 o1 f1 n1
  have w2 : W0 m E pb oN oO g { k := 10, at_ := at_ } m1 _ := w1.store o1 f1
  refine wo_n rfl (nv_nil rfl rfl rfl) rfl rfl ?_
  refine wo_n rfl (nv_fa rfl rfl) rfl rfl ?_
  refine wo_store rfl rfl rfl rfl (by assumption) rfl rfl (Nat.le_of_ble_eq_true rfl) rfl ?_
  intro m2 o2 f2 n2
  have w3 : W0 m E pb oN oO g { k := 10, a := a, at_ := at_ } m2 _ := w2.store o2 f2
  refine wo_nil ?_
  refine thenW_n ?_
  refine wc_seq ?_
  refine wc_region ?_
  refine wo_n rfl (nv_move rfl rfl) rfl rfl ?_
  obtain ⟨n4, k4, w4, l4⟩ := w3.call fun _ _ r => must_spec (xb := xb) hX.no r kwith
  refine wo_call rfl rfl (by kernel_rfl) (k4) rfl rfl ?_
  refine wo_nil ?_
  refine thenW_n ?_
  refine wc_seq ?_
  refine wc_region ?_
  refine wo_n rfl (nv_move rfl rfl) rfl rfl ?_
  refine wo_n rfl (nv_move rfl rfl) rfl rfl ?_
  obtain ⟨n5, k5, w5, l5⟩ := w4.call fun _ _ r => name_spec (xb := xb) hX.no r
  have b5 := w5.b
  refine wo_call rfl rfl (by kernel_rfl) (k5) rfl rfl ?_
  refine wo_n rfl (nv_nil rfl rfl rfl) rfl rfl ?_
  refine wo_n rfl (nv_fa rfl rfl) rfl rfl ?_
  refine wo_store rfl rfl rfl rfl (by assumption) rfl rfl (Nat.le_of_ble_eq_true rfl) rfl ?_
  intro m3 o3 f3 n3
  have w6 : W0 m E pb oN oO g { k := 10, a := a, nm := (name E (must E kwith A)).1, at_ := at_ } m3 _ := w5.store o3 f3
  refine wo_nil ?_
  refine thenW_n ?_
  refine wc_seq ?_
  refine wc_region ?_
  refine wo_n rfl (nv_move rfl rfl) rfl rfl ?_
  refine wo_n rfl (nv_move rfl rfl) rfl rfl ?_
  obtain ⟨n7, k7, w7, l7⟩ := w6.call fun _ _ r => name_spec (xb := xb) hX.no r
  have b7 := w7.b
  refine wo_call rfl rfl (by kernel_rfl) (k7) rfl rfl ?_
  refine wo_n rfl (nv_nil rfl rfl rfl) rfl rfl ?_
  refine wo_n rfl (nv_fa rfl rfl) rfl rfl ?_
  refine wo_store rfl rfl rfl rfl (by assumption) rfl rfl (Nat.le_of_ble_eq_true rfl) rfl ?_
  intro m4 o4 f4 n4
  have w8 : W0 m E pb oN oO g { k := 10, a := a, nm := (name E (must E kwith A)).1, x := (name E (name E (must E kwith A)).2).1, at_ := at_ } m4 _ := w7.store o4 f4
  refine wo_nil ?_
  refine thenW_n ?_
  refine wc_seq ?_
  refine wc_region ?_
  refine wo_n rfl (nv_move rfl rfl) rfl rfl ?_
  refine wo_n rfl (nv_move rfl rfl) rfl rfl ?_
  obtain ⟨n9, k9, w9, l9⟩ := w8.call fun _ _ r => name_spec (xb := xb) hX.no r
  have b9 := w9.b
  refine wo_call rfl rfl (by kernel_rfl) (k9) rfl rfl ?_
  refine wo_n rfl (nv_nil rfl rfl rfl) rfl rfl ?_
  refine wo_n rfl (nv_fa rfl rfl) rfl rfl ?_
  refine wo_store rfl rfl rfl rfl (by assumption) rfl rfl (Nat.le_of_ble_eq_true rfl) rfl ?_
  intro m5 o5 f5 n5
  have w10 : W0 m E pb oN oO g { k := 10, a := a, nm := (name E (must E kwith A)).1, x := (name E (name E (must E kwith A)).2).1, y := (name E (name E (name E (must E kwith A)).2).2).1, at_ := at_ } m5 _ := w9.store o5 f5
  refine wo_nil ?_
  refine thenW_n ?_
  refine wc_seq ?_
  refine wc_region ?_
  refine wo_n rfl (nv_move rfl rfl) rfl rfl ?_
  refine wo_n rfl (nv_move rfl rfl) rfl rfl ?_
  obtain ⟨n11, k11, w11, l11⟩ := w10.call fun _ _ r => then_spec (xb := xb) hX hS r karrow h2
  have b11 := w11.b
  refine wo_call rfl rfl (by kernel_rfl) (k11) rfl rfl ?_
  refine wo_n rfl (nv_nil rfl rfl rfl) rfl rfl ?_
  refine wo_n rfl (nv_fa rfl rfl) rfl rfl ?_
  refine wo_store rfl rfl rfl rfl (by assumption) rfl rfl (Nat.le_of_ble_eq_true rfl) rfl ?_
  intro m6 o6 f6 n6
  have w12 : W0 m E pb oN oO g { k := 10, a := a, b := b, nm := (name E (must E kwith A)).1, x := (name E (name E (must E kwith A)).2).1, y := (name E (name E (name E (must E kwith A)).2).2).1, at_ := at_ } m6 _ := w11.store o6 f6
  refine wo_nil ?_
  refine thenW_n ?_
  refine wc_seq ?_
  refine wc_region ?_
  refine wo_n rfl (nv_move rfl rfl) rfl rfl ?_
  obtain ⟨n13, k13, w13, l13⟩ := w12.call fun _ _ r => must_spec (xb := xb) hX.no r kreturn
  refine wo_call rfl rfl (by kernel_rfl) (k13) rfl rfl ?_
  refine wo_nil ?_
  refine thenW_n ?_
  refine wc_seq ?_
  refine wc_region ?_
  refine wo_n rfl (nv_move rfl rfl) rfl rfl ?_
  refine wo_n rfl (nv_move rfl rfl) rfl rfl ?_
  obtain ⟨n14, k14, w14, l14⟩ := w13.call fun _ _ r => name_spec (xb := xb) hX.no r
  have b14 := w14.b
  refine wo_call rfl rfl (by kernel_rfl) (k14) rfl rfl ?_
  refine wo_n rfl (nv_nil rfl rfl rfl) rfl rfl ?_
  refine wo_n rfl (nv_fa rfl rfl) rfl rfl ?_
  refine wo_store rfl rfl rfl rfl (by assumption) rfl rfl (Nat.le_of_ble_eq_true rfl) rfl ?_
  intro m7 o7 f7 n7
  have w15 : W0 m E pb oN oO g { k := 10, a := a, b := b, nm := (name E (must E kwith A)).1, x := (name E (name E (must E kwith A)).2).1, y := (name E (name E (name E (must E kwith A)).2).2).1, z := (name E (must E kreturn B)).1, at_ := at_ } m7 _ := w14.store o7 f7
  refine wo_nil ?_
  refine thenW_n ?_
  refine wc_seq ?_
  refine wc_region ?_
  refine wo_n rfl (nv_move rfl rfl) rfl rfl ?_
  refine wo_n rfl (nv_move rfl rfl) rfl rfl ?_
  obtain ⟨n16, k16, w16, l16⟩ := w15.call fun _ _ r => then_spec (xb := xb) hX hS r karrow h3
  have b16 := w16.b
  refine wo_call rfl rfl (by kernel_rfl) (k16) rfl rfl ?_
  refine wo_n rfl (nv_nil rfl rfl rfl) rfl rfl ?_
  refine wo_n rfl (nv_fa rfl rfl) rfl rfl ?_
  refine wo_store rfl rfl rfl rfl (by assumption) rfl rfl (Nat.le_of_ble_eq_true rfl) rfl ?_
  intro m8 o8 f8 n8
  have w17 : W0 m E pb oN oO g { k := 10, a := a, b := b, c := c, nm := (name E (must E kwith A)).1, x := (name E (name E (must E kwith A)).2).1, y := (name E (name E (name E (must E kwith A)).2).2).1, z := (name E (must E kreturn B)).1, at_ := at_ } m8 _ := w16.store o8 f8
  refine wo_nil ?_
  refine thenW_n ?_
  refine wc_region ?_
  refine wo_n rfl (nv_move rfl rfl) rfl rfl ?_
  obtain ⟨n18, k18, w18, l18⟩ := w17.call fun _ _ r => must_spec (xb := xb) hX.no r kend
  refine wo_call rfl rfl (by kernel_rfl) (k18) rfl rfl ?_
  refine wo_nil ?_
  refine endW_none rfl ?_
  refine ⟨rfl, w18, ?_⟩
  omega
set_option maxHeartbeats 2000000 in
theorem atom_spec (h : Rep m E pb oN oO P) (hr : run E (n + 1) .atom P = some (v, Q)) : ∃ m', Ev Tryd.prog xb ext 57 [.ptr pb 0] m (.int .i64 v) m' ∧ Post m E pb oN oO m' Q := by
  simp only [run] at hr
  have hh := here_spec (xb := xb) hX.no h
  refine ev_to ?_
  cases hs : starts P with
  | false =>
    rw [hs] at hr
    cases hr
    refine ev_of (fun m => hX.no _ _ m (by decide)) Tryd.func57 rfl rfl ?_
    refine wc_seq ?_
    refine wc_region ?_
    refine wo_n rfl (nv_assign rfl rfl) rfl rfl ?_
    refine wo_nil ?_
    refine thenW_n ?_
    refine wc_seq ?_
    refine wc_region ?_
    refine wo_n rfl (nv_move rfl rfl) rfl rfl ?_
    refine wo_call rfl rfl (by kernel_rfl) (hh) rfl rfl ?_
    refine wo_n rfl (nv_buildS rfl rfl rfl) rfl rfl ?_
    refine wo_alloc rfl rfl rfl rfl ?_
    intro g1 m1 o1 f1 l1
    have w1 := Wx.start (.refl h) o1 f1 l1
    refine wo_store rfl rfl rfl rfl (by assumption) rfl rfl (Nat.le_of_ble_eq_true rfl) rfl ?_
    intro m2 o2 f2 n2
    have w2 : W0 m E pb oN oO g1 { at_ := here E P } m2 P := w1.store o2 f2
    refine wo_nil ?_
    refine thenW_n ?_
    refine wc_seq ?_
    refine wc_region ?_
    refine wo_n rfl (nv_move rfl rfl) rfl rfl ?_
    obtain ⟨aN, aO, r0, hn0, s0⟩ := w2.p
    obtain ⟨nv, hnv, hN⟩ := next_spec (xb := xb) hX.no r0
    have hst := starts_spec (xb := xb) hX r0
    rw [hs] at hst
    refine wo_call rfl rfl (by kernel_rfl) (hnv) rfl rfl ?_
    refine wo_n rfl (nv_assign rfl rfl) rfl rfl ?_
    refine wo_nil ?_
    refine thenW_n ?_
    refine wc_seq ?_
    refine wc_block ?_
    refine wc_seq ?_
    refine wc_region ?_
    refine wo_n rfl (nv_move rfl rfl) rfl rfl ?_
    refine wo_call rfl rfl (by kernel_rfl) (hst) rfl rfl ?_
    refine wo_n rfl (nv_not rfl rfl) rfl rfl ?_
    refine wo_n rfl (nv_assign rfl rfl) rfl rfl ?_
    refine wo_nil ?_
    refine thenW_n ?_
    refine wc_true rfl ?_
    refine wc_seq ?_
    refine wc_region ?_
    refine wo_n rfl (nv_move rfl rfl) rfl rfl ?_
    refine wo_n rfl (nv_buildS rfl rfl rfl) rfl rfl ?_
    refine wo_box rfl rfl rfl rfl rfl ?_
    intro g3 m3 o3 f3 l3
    have r4 := r0.alloc f3
    have hgn : ¬ own pb aN aO g3 := fun hc => Nat.lt_irrefl _ (Nat.lt_of_lt_of_le (r0.lt hc) l3)
    obtain ⟨mf, hf, pf⟩ := fail_spec (xb := xb) hX.no r4 (.want g3 (txt [97, 116, 111, 109]) o3 hgn)
    refine wo_n rfl (nv_mkI rfl rfl) rfl rfl ?_
    refine wo_call rfl rfl (by kernel_rfl) (hf) rfl rfl ?_
    refine wo_nil ?_
    refine thenW_n ?_
    refine wc_seq ?_
    refine wc_region ?_
    refine wo_n rfl (nv_assign rfl rfl) rfl rfl ?_
    refine wo_nil ?_
    refine thenW_n ?_
    refine wc_ret ?_
    refine blockW_r ?_
    refine thenW_r ?_
    refine endW_ret rfl rfl ?_
    exact ⟨rfl, (w2.to hn0 s0 (.alloc r0 f3 pf)).done⟩
  | true =>
    rw [hs] at hr
    cases hnx : next P with
    | none => unfold starts at hs; rw [hnx] at hs; cases hs
    | some t =>
      rw [hnx] at hr
      dsimp only at hr
      by_cases h0 : t.kind = 0
      · rw [if_pos h0] at hr
        obtain ⟨rfl, rfl⟩ := put_eq hr
        refine ev_of (fun m => hX.no _ _ m (by decide)) Tryd.func57 rfl rfl ?_
        refine wc_seq ?_
        refine wc_region ?_
        refine wo_n rfl (nv_assign rfl rfl) rfl rfl ?_
        refine wo_nil ?_
        refine thenW_n ?_
        refine wc_seq ?_
        refine wc_region ?_
        refine wo_n rfl (nv_move rfl rfl) rfl rfl ?_
        refine wo_call rfl rfl (by kernel_rfl) (hh) rfl rfl ?_
        refine wo_n rfl (nv_buildS rfl rfl rfl) rfl rfl ?_
        refine wo_alloc rfl rfl rfl rfl ?_
        intro g1 m1 o1 f1 l1
        have w1 := Wx.start (.refl h) o1 f1 l1
        refine wo_store rfl rfl rfl rfl (by assumption) rfl rfl (Nat.le_of_ble_eq_true rfl) rfl ?_
        intro m2 o2 f2 n2
        have w2 : W0 m E pb oN oO g1 { at_ := here E P } m2 P := w1.store o2 f2
        refine wo_nil ?_
        refine thenW_n ?_
        refine wc_seq ?_
        refine wc_region ?_
        refine wo_n rfl (nv_move rfl rfl) rfl rfl ?_
        obtain ⟨aN, aO, r0, hn0, s0⟩ := w2.p
        obtain ⟨nv, hnv, hN⟩ := next_spec (xb := xb) hX.no r0
        rw [hnx] at hN
        obtain ⟨tb, tz, rfl, hA, hno, hbl⟩ := hN
        have hk := hA.k
        have hst := starts_spec (xb := xb) hX r0
        rw [hs] at hst
        refine wo_call rfl rfl (by kernel_rfl) (hnv) rfl rfl ?_
        refine wo_n rfl (nv_assign rfl rfl) rfl rfl ?_
        refine wo_nil ?_
        refine thenW_n ?_
        refine wc_seq ?_
        refine wc_block ?_
        refine wc_seq ?_
        refine wc_region ?_
        refine wo_n rfl (nv_move rfl rfl) rfl rfl ?_
        refine wo_call rfl rfl (by kernel_rfl) (hst) rfl rfl ?_
        refine wo_n rfl (nv_not rfl rfl) rfl rfl ?_
        refine wo_n rfl (nv_assign rfl rfl) rfl rfl ?_
        refine wo_nil ?_
        refine thenW_n ?_
        refine wc_false rfl ?_
        refine wc_seq ?_
        refine wc_region ?_
        refine wo_n rfl (nv_move rfl rfl) rfl rfl ?_
        refine wo_n rfl (nv_nil rfl rfl rfl) rfl rfl ?_
        refine wo_n rfl (nv_fa rfl rfl) rfl rfl ?_
        refine wo_m rfl (mv_load rfl rfl (by assumption)) rfl rfl ?_
        refine wo_n rfl (nv_eqlT rfl rfl rfl (by first | assumption | decide | omega)) rfl rfl ?_
        refine wo_n rfl (nv_assign rfl rfl) rfl rfl ?_
        refine wo_nil ?_
        refine thenW_n ?_
        refine wc_true rfl ?_
        refine wc_region ?_
        refine wo_n rfl (nv_move rfl rfl) rfl rfl ?_
        obtain ⟨n4, k4, w4, l4⟩ := w2.call fun _ _ r => name_spec (xb := xb) hX.no r
        have b4 := w4.b
        refine wo_call rfl rfl (by kernel_rfl) (k4) rfl rfl ?_
        refine wo_n rfl (nv_fa rfl rfl) rfl rfl ?_
        refine wo_store rfl rfl rfl rfl (by assumption) rfl rfl (Nat.le_of_ble_eq_true rfl) rfl ?_
        intro m3 o3 f3 n3
        have w5 : W0 m E pb oN oO g1 { nm := (name E P).1, at_ := here E P } m3 _ := w4.store o3 f3
        have x5 := w5.b.rowAll (n := 10) rfl
        refine wo_nil ?_
        refine blockW_n ?_
        refine thenW_n ?_
        refine wc_seq ?_
        refine wc_region ?_
        refine wo_n rfl (nv_move rfl rfl) rfl rfl ?_
        refine wo_m rfl (mv_loadA rfl rfl (by assumption)) rfl rfl ?_
        obtain ⟨n6, k6, w6, l6⟩ := w5.call fun _ _ r => put_spec (xb := xb) hX.no r { nm := (name E P).1, at_ := here E P }
        refine wo_call rfl rfl (by kernel_rfl) (k6) rfl rfl ?_
        refine wo_n rfl (nv_assign rfl rfl) rfl rfl ?_
        refine wo_nil ?_
        refine thenW_n ?_
        refine wc_ret ?_
        refine endW_ret rfl rfl ?_
        exact ⟨rfl, w6.done⟩
      · rw [if_neg h0] at hr
        by_cases h1 : t.kind = 1
        · rw [if_pos h1] at hr
          obtain ⟨rfl, rfl⟩ := put_eq hr
          obtain ⟨rest, hT⟩ := next_some hnx
          refine ev_of (fun m => hX.no _ _ m (by decide)) Tryd.func57 rfl rfl ?_
          refine wc_seq ?_
          refine wc_region ?_
          refine wo_n rfl (nv_assign rfl rfl) rfl rfl ?_
          refine wo_nil ?_
          refine thenW_n ?_
          refine wc_seq ?_
          refine wc_region ?_
          refine wo_n rfl (nv_move rfl rfl) rfl rfl ?_
          refine wo_call rfl rfl (by kernel_rfl) (hh) rfl rfl ?_
          refine wo_n rfl (nv_buildS rfl rfl rfl) rfl rfl ?_
          refine wo_alloc rfl rfl rfl rfl ?_
          intro g1 m1 o1 f1 l1
          have w1 := Wx.start (.refl h) o1 f1 l1
          refine wo_store rfl rfl rfl rfl (by assumption) rfl rfl (Nat.le_of_ble_eq_true rfl) rfl ?_
          intro m2 o2 f2 n2
          have w2 : W0 m E pb oN oO g1 { at_ := here E P } m2 P := w1.store o2 f2
          refine wo_nil ?_
          refine thenW_n ?_
          refine wc_seq ?_
          refine wc_region ?_
          refine wo_n rfl (nv_move rfl rfl) rfl rfl ?_
          obtain ⟨aN, aO, r0, hn0, s0⟩ := w2.p
          obtain ⟨nv, hnv, hN⟩ := next_spec (xb := xb) hX.no r0
          rw [hnx] at hN
          obtain ⟨tb, tz, rfl, hA, hno, hbl⟩ := hN
          have hk := hA.k
          have hst := starts_spec (xb := xb) hX r0
          rw [hs] at hst
          obtain ⟨ub, uoff, un, uc, uov, unv, uev, hp2, hn1, hn2'⟩ := r0.first hT
          have c2 := hp2.obj.cell (i := 0) rfl
          have q2 := hp2.obj
          refine wo_call rfl rfl (by kernel_rfl) (hnv) rfl rfl ?_
          refine wo_n rfl (nv_assign rfl rfl) rfl rfl ?_
          refine wo_nil ?_
          refine thenW_n ?_
          refine wc_seq ?_
          refine wc_block ?_
          refine wc_seq ?_
          refine wc_region ?_
          refine wo_n rfl (nv_move rfl rfl) rfl rfl ?_
          refine wo_call rfl rfl (by kernel_rfl) (hst) rfl rfl ?_
          refine wo_n rfl (nv_not rfl rfl) rfl rfl ?_
          refine wo_n rfl (nv_assign rfl rfl) rfl rfl ?_
          refine wo_nil ?_
          refine thenW_n ?_
          refine wc_false rfl ?_
          refine wc_seq ?_
          refine wc_region ?_
          refine wo_n rfl (nv_move rfl rfl) rfl rfl ?_
          refine wo_n rfl (nv_nil rfl rfl rfl) rfl rfl ?_
          refine wo_n rfl (nv_fa rfl rfl) rfl rfl ?_
          refine wo_m rfl (mv_load rfl rfl (by assumption)) rfl rfl ?_
          refine wo_n rfl (nv_eqlF rfl rfl rfl (by first | assumption | decide | omega)) rfl rfl ?_
          refine wo_n rfl (nv_assign rfl rfl) rfl rfl ?_
          refine wo_nil ?_
          refine thenW_n ?_
          refine wc_false rfl ?_
          refine wc_seq ?_
          refine wc_region ?_
          refine wo_n rfl (nv_move rfl rfl) rfl rfl ?_
          refine wo_n rfl (nv_nil rfl rfl rfl) rfl rfl ?_
          refine wo_n rfl (nv_fa rfl rfl) rfl rfl ?_
          refine wo_m rfl (mv_load rfl rfl (by assumption)) rfl rfl ?_
          refine wo_n rfl (nv_eqlT rfl rfl rfl (by first | assumption | decide | omega)) rfl rfl ?_
          refine wo_n rfl (nv_assign rfl rfl) rfl rfl ?_
          refine wo_nil ?_
          refine thenW_n ?_
          refine wc_true rfl ?_
          refine wc_seq ?_
          refine wc_region ?_
          refine wo_n rfl (nv_move rfl rfl) rfl rfl ?_
          refine wo_n rfl (nv_move rfl rfl) rfl rfl ?_
          refine wo_n rfl (nv_nil rfl rfl rfl) rfl rfl ?_
          refine wo_n rfl (nv_fa rfl rfl) rfl rfl ?_
          refine wo_m rfl (mv_load rfl rfl (by assumption)) rfl rfl ?_
          refine wo_n rfl (nv_slice rfl rfl rfl rfl (slice_from (l := 1) (by first | assumption | omega) (by first | assumption | omega))) rfl rfl ?_
          refine wo_n rfl (nv_nil rfl rfl rfl) rfl rfl ?_
          refine wo_n rfl (nv_fa rfl rfl) rfl rfl ?_
          refine wo_store rfl rfl rfl rfl (by assumption) rfl rfl (Nat.le_of_ble_eq_true rfl) rfl ?_
          intro m3 o3 f3 n3
          have w3 : W0 m E pb oN oO g1 { at_ := here E P } m3 (drop1 P) := w2.to hn0 s0 (dropR r0 hp2 hT o3 f3)
          have hA' := hA.fr f3 hbl (fun e => hno (.inl e))
          have hnum := hA'.n
          have b3 := w3.b
          refine wo_nil ?_
          refine thenW_n ?_
          refine wc_region ?_
          refine wo_n rfl (nv_move rfl rfl) rfl rfl ?_
          refine wo_n rfl (nv_nil rfl rfl rfl) rfl rfl ?_
          refine wo_n rfl (nv_fa rfl rfl) rfl rfl ?_
          refine wo_m rfl (mv_load rfl rfl (by assumption)) rfl rfl ?_
          refine wo_n rfl (nv_fa rfl rfl) rfl rfl ?_
          refine wo_store rfl rfl rfl rfl (by assumption) rfl rfl (Nat.le_of_ble_eq_true rfl) rfl ?_
          intro m4 o4 f4 n4
          have w4 : W0 m E pb oN oO g1 { k := 1, at_ := here E P } m4 _ := w3.store o4 f4
          refine wo_n rfl (nv_fa rfl rfl) rfl rfl ?_
          refine wo_store rfl rfl rfl rfl (by assumption) rfl rfl (Nat.le_of_ble_eq_true rfl) rfl ?_
          intro m5 o5 f5 n5
          have w5 : W0 m E pb oN oO g1 { k := 1, num := t.num, at_ := here E P } m5 _ := w4.store o5 f5
          have x5 := w5.b.rowAll (n := 10) rfl
          refine wo_nil ?_
          refine blockW_n ?_
          refine thenW_n ?_
          refine wc_seq ?_
          refine wc_region ?_
          refine wo_n rfl (nv_move rfl rfl) rfl rfl ?_
          refine wo_m rfl (mv_loadA rfl rfl (by assumption)) rfl rfl ?_
          obtain ⟨n6, k6, w6, l6⟩ := w5.call fun _ _ r => put_spec (xb := xb) hX.no r { k := 1, num := t.num, at_ := here E P }
          refine wo_call rfl rfl (by kernel_rfl) (k6) rfl rfl ?_
          refine wo_n rfl (nv_assign rfl rfl) rfl rfl ?_
          refine wo_nil ?_
          refine thenW_n ?_
          refine wc_ret ?_
          refine endW_ret rfl rfl ?_
          exact ⟨rfl, w6.done⟩
        · rw [if_neg h1] at hr
          cases ho : is P kopen with
          | true =>
            rw [ho] at hr
            obtain ⟨a, A, hi, hr⟩ := bindR_some hr
            cases hr
            refine ev_of (fun m => hX.no _ _ m (by decide)) Tryd.func57 rfl rfl ?_
            refine wc_seq ?_
            refine wc_region ?_
            refine wo_n rfl (nv_assign rfl rfl) rfl rfl ?_
            refine wo_nil ?_
            refine thenW_n ?_
            refine wc_seq ?_
            refine wc_region ?_
            refine wo_n rfl (nv_move rfl rfl) rfl rfl ?_
            refine wo_call rfl rfl (by kernel_rfl) (hh) rfl rfl ?_
            refine wo_n rfl (nv_buildS rfl rfl rfl) rfl rfl ?_
            refine wo_alloc rfl rfl rfl rfl ?_
            intro g1 m1 o1 f1 l1
            have w1 := Wx.start (.refl h) o1 f1 l1
            refine wo_store rfl rfl rfl rfl (by assumption) rfl rfl (Nat.le_of_ble_eq_true rfl) rfl ?_
            intro m2 o2 f2 n2
            have w2 : W0 m E pb oN oO g1 { at_ := here E P } m2 P := w1.store o2 f2
            refine wo_nil ?_
            refine thenW_n ?_
            refine wc_seq ?_
            refine wc_region ?_
            refine wo_n rfl (nv_move rfl rfl) rfl rfl ?_
            obtain ⟨aN, aO, r0, hn0, s0⟩ := w2.p
            obtain ⟨nv, hnv, hN⟩ := next_spec (xb := xb) hX.no r0
            rw [hnx] at hN
            obtain ⟨tb, tz, rfl, hA, hno, hbl⟩ := hN
            have hk := hA.k
            have hst := starts_spec (xb := xb) hX r0
            rw [hs] at hst
            refine wo_call rfl rfl (by kernel_rfl) (hnv) rfl rfl ?_
            refine wo_n rfl (nv_assign rfl rfl) rfl rfl ?_
            refine wo_nil ?_
            refine thenW_n ?_
            refine wc_seq ?_
            refine wc_block ?_
            refine wc_seq ?_
            refine wc_region ?_
            refine wo_n rfl (nv_move rfl rfl) rfl rfl ?_
            refine wo_call rfl rfl (by kernel_rfl) (hst) rfl rfl ?_
            refine wo_n rfl (nv_not rfl rfl) rfl rfl ?_
            refine wo_n rfl (nv_assign rfl rfl) rfl rfl ?_
            refine wo_nil ?_
            refine thenW_n ?_
            refine wc_false rfl ?_
            refine wc_seq ?_
            refine wc_region ?_
            refine wo_n rfl (nv_move rfl rfl) rfl rfl ?_
            refine wo_n rfl (nv_nil rfl rfl rfl) rfl rfl ?_
            refine wo_n rfl (nv_fa rfl rfl) rfl rfl ?_
            refine wo_m rfl (mv_load rfl rfl (by assumption)) rfl rfl ?_
            refine wo_n rfl (nv_eqlF rfl rfl rfl (by first | assumption | decide | omega)) rfl rfl ?_
            refine wo_n rfl (nv_assign rfl rfl) rfl rfl ?_
            refine wo_nil ?_
            refine thenW_n ?_
            refine wc_false rfl ?_
            refine wc_seq ?_
            refine wc_region ?_
            refine wo_n rfl (nv_move rfl rfl) rfl rfl ?_
            refine wo_n rfl (nv_nil rfl rfl rfl) rfl rfl ?_
            refine wo_n rfl (nv_fa rfl rfl) rfl rfl ?_
            refine wo_m rfl (mv_load rfl rfl (by assumption)) rfl rfl ?_
            refine wo_n rfl (nv_eqlF rfl rfl rfl (by first | assumption | decide | omega)) rfl rfl ?_
            refine wo_n rfl (nv_assign rfl rfl) rfl rfl ?_
            refine wo_nil ?_
            refine thenW_n ?_
            refine wc_false rfl ?_
            refine wc_seq ?_
            refine wc_region ?_
            refine wo_n rfl (nv_move rfl rfl) rfl rfl ?_
            obtain ⟨n3, k3, w3, l3⟩ := w2.call fun _ _ r => take_true (xb := xb) hX r kopen ho
            refine wo_call rfl rfl (by kernel_rfl) (k3) rfl rfl ?_
            refine wo_n rfl (nv_assign rfl rfl) rfl rfl ?_
            refine wo_nil ?_
            refine thenW_n ?_
            refine wc_true rfl ?_
            refine wc_seq ?_
            refine wc_region ?_
            refine wo_n rfl (nv_move rfl rfl) rfl rfl ?_
            obtain ⟨n4, k4, w4, l4⟩ := w3.call fun _ _ r => hS.inner r hi
            refine wo_call rfl rfl (by kernel_rfl) (k4) rfl rfl ?_
            refine wo_n rfl (nv_assign rfl rfl) rfl rfl ?_
            refine wo_nil ?_
            refine thenW_n ?_
            refine wc_seq ?_
            refine wc_region ?_
            refine wo_n rfl (nv_move rfl rfl) rfl rfl ?_
            obtain ⟨n5, k5, w5, l5⟩ := w4.call fun _ _ r => must_spec (xb := xb) hX.no r kclose
            refine wo_call rfl rfl (by kernel_rfl) (k5) rfl rfl ?_
            refine wo_nil ?_
            refine thenW_n ?_
            refine wc_seq ?_
            refine wc_region ?_
            refine wo_n rfl (nv_move rfl rfl) rfl rfl ?_
            refine wo_n rfl (nv_assign rfl rfl) rfl rfl ?_
            refine wo_nil ?_
            refine thenW_n ?_
            refine wc_ret ?_
            refine blockW_r ?_
            refine thenW_r ?_
            refine endW_ret rfl rfl ?_
            exact ⟨rfl, w5.done⟩
          | false =>
            rw [ho] at hr
            cases hh2 : is P khandle with
            | true =>
              rw [hh2] at hr
              simp only [Bool.false_eq_true, if_false, if_true] at hr
              split at hr
              · cases hr
              rename_i x B hhm
              obtain ⟨rfl, rfl⟩ := put_eq hr
              refine ev_of (fun m => hX.no _ _ m (by decide)) Tryd.func57 rfl rfl ?_
              refine wc_seq ?_
              refine wc_region ?_
              refine wo_n rfl (nv_assign rfl rfl) rfl rfl ?_
              refine wo_nil ?_
              refine thenW_n ?_
              refine wc_seq ?_
              refine wc_region ?_
              refine wo_n rfl (nv_move rfl rfl) rfl rfl ?_
              refine wo_call rfl rfl (by kernel_rfl) (hh) rfl rfl ?_
              refine wo_n rfl (nv_buildS rfl rfl rfl) rfl rfl ?_
              refine wo_alloc rfl rfl rfl rfl ?_
              intro g1 m1 o1 f1 l1
              have w1 := Wx.start (.refl h) o1 f1 l1
              refine wo_store rfl rfl rfl rfl (by assumption) rfl rfl (Nat.le_of_ble_eq_true rfl) rfl ?_
              intro m2 o2 f2 n2
              have w2 : W0 m E pb oN oO g1 { at_ := here E P } m2 P := w1.store o2 f2
              refine wo_nil ?_
              refine thenW_n ?_
              refine wc_seq ?_
              refine wc_region ?_
              refine wo_n rfl (nv_move rfl rfl) rfl rfl ?_
              obtain ⟨aN, aO, r0, hn0, s0⟩ := w2.p
              obtain ⟨nv, hnv, hN⟩ := next_spec (xb := xb) hX.no r0
              rw [hnx] at hN
              obtain ⟨tb, tz, rfl, hA, hno, hbl⟩ := hN
              have hk := hA.k
              have hst := starts_spec (xb := xb) hX r0
              rw [hs] at hst
              refine wo_call rfl rfl (by kernel_rfl) (hnv) rfl rfl ?_
              refine wo_n rfl (nv_assign rfl rfl) rfl rfl ?_
              refine wo_nil ?_
              refine thenW_n ?_
              refine wc_seq ?_
              refine wc_block ?_
              refine wc_seq ?_
              refine wc_region ?_
              refine wo_n rfl (nv_move rfl rfl) rfl rfl ?_
              refine wo_call rfl rfl (by kernel_rfl) (hst) rfl rfl ?_
              refine wo_n rfl (nv_not rfl rfl) rfl rfl ?_
              refine wo_n rfl (nv_assign rfl rfl) rfl rfl ?_
              refine wo_nil ?_
              refine thenW_n ?_
              refine wc_false rfl ?_
              refine wc_seq ?_
              refine wc_region ?_
              refine wo_n rfl (nv_move rfl rfl) rfl rfl ?_
              refine wo_n rfl (nv_nil rfl rfl rfl) rfl rfl ?_
              refine wo_n rfl (nv_fa rfl rfl) rfl rfl ?_
              refine wo_m rfl (mv_load rfl rfl (by assumption)) rfl rfl ?_
              refine wo_n rfl (nv_eqlF rfl rfl rfl (by first | assumption | decide | omega)) rfl rfl ?_
              refine wo_n rfl (nv_assign rfl rfl) rfl rfl ?_
              refine wo_nil ?_
              refine thenW_n ?_
              refine wc_false rfl ?_
              refine wc_seq ?_
              refine wc_region ?_
              refine wo_n rfl (nv_move rfl rfl) rfl rfl ?_
              refine wo_n rfl (nv_nil rfl rfl rfl) rfl rfl ?_
              refine wo_n rfl (nv_fa rfl rfl) rfl rfl ?_
              refine wo_m rfl (mv_load rfl rfl (by assumption)) rfl rfl ?_
              refine wo_n rfl (nv_eqlF rfl rfl rfl (by first | assumption | decide | omega)) rfl rfl ?_
              refine wo_n rfl (nv_assign rfl rfl) rfl rfl ?_
              refine wo_nil ?_
              refine thenW_n ?_
              refine wc_false rfl ?_
              refine wc_seq ?_
              refine wc_region ?_
              refine wo_n rfl (nv_move rfl rfl) rfl rfl ?_
              obtain ⟨n3, k3, w3, l3⟩ := w2.call fun _ _ r => take_false (xb := xb) hX r kopen ho
              refine wo_call rfl rfl (by kernel_rfl) (k3) rfl rfl ?_
              refine wo_n rfl (nv_assign rfl rfl) rfl rfl ?_
              refine wo_nil ?_
              refine thenW_n ?_
              refine wc_false rfl ?_
              refine wc_seq ?_
              refine wc_region ?_
              refine wo_n rfl (nv_move rfl rfl) rfl rfl ?_
              obtain ⟨n4, k4, w4, l4⟩ := w3.call fun _ _ r => take_true (xb := xb) hX r khandle hh2
              refine wo_call rfl rfl (by kernel_rfl) (k4) rfl rfl ?_
              refine wo_n rfl (nv_assign rfl rfl) rfl rfl ?_
              refine wo_nil ?_
              refine thenW_n ?_
              refine wc_true rfl ?_
              refine wc_region ?_
              refine wo_n rfl (nv_move rfl rfl) rfl rfl ?_
              obtain ⟨n5, k5, w5, l5⟩ := handle_spec hX hS w4 hhm
              refine wo_call rfl rfl (by kernel_rfl) (k5) rfl rfl ?_
              have x5 := w5.b.rowAll (n := 10) rfl
              refine wo_nil ?_
              refine blockW_n ?_
              refine thenW_n ?_
              refine wc_seq ?_
              refine wc_region ?_
              refine wo_n rfl (nv_move rfl rfl) rfl rfl ?_
              refine wo_m rfl (mv_loadA rfl rfl (by assumption)) rfl rfl ?_
              obtain ⟨n6, k6, w6, l6⟩ := w5.call fun _ _ r => put_spec (xb := xb) hX.no r x
              refine wo_call rfl rfl (by kernel_rfl) (k6) rfl rfl ?_
              refine wo_n rfl (nv_assign rfl rfl) rfl rfl ?_
              refine wo_nil ?_
              refine thenW_n ?_
              refine wc_ret ?_
              refine endW_ret rfl rfl ?_
              exact ⟨rfl, w6.done⟩
            | false =>
              rw [hh2] at hr
              simp only [Bool.false_eq_true, if_false] at hr
              cases ht : is P ktrue with
              | true =>
                rw [ht] at hr
                obtain ⟨rfl, rfl⟩ := put_eq hr
                refine ev_of (fun m => hX.no _ _ m (by decide)) Tryd.func57 rfl rfl ?_
                refine wc_seq ?_
                refine wc_region ?_
                refine wo_n rfl (nv_assign rfl rfl) rfl rfl ?_
                refine wo_nil ?_
                refine thenW_n ?_
                refine wc_seq ?_
                refine wc_region ?_
                refine wo_n rfl (nv_move rfl rfl) rfl rfl ?_
                refine wo_call rfl rfl (by kernel_rfl) (hh) rfl rfl ?_
                refine wo_n rfl (nv_buildS rfl rfl rfl) rfl rfl ?_
                refine wo_alloc rfl rfl rfl rfl ?_
                intro g1 m1 o1 f1 l1
                have w1 := Wx.start (.refl h) o1 f1 l1
                refine wo_store rfl rfl rfl rfl (by assumption) rfl rfl (Nat.le_of_ble_eq_true rfl) rfl ?_
                intro m2 o2 f2 n2
                have w2 : W0 m E pb oN oO g1 { at_ := here E P } m2 P := w1.store o2 f2
                refine wo_nil ?_
                refine thenW_n ?_
                refine wc_seq ?_
                refine wc_region ?_
                refine wo_n rfl (nv_move rfl rfl) rfl rfl ?_
                obtain ⟨aN, aO, r0, hn0, s0⟩ := w2.p
                obtain ⟨nv, hnv, hN⟩ := next_spec (xb := xb) hX.no r0
                rw [hnx] at hN
                obtain ⟨tb, tz, rfl, hA, hno, hbl⟩ := hN
                have hk := hA.k
                have hst := starts_spec (xb := xb) hX r0
                rw [hs] at hst
                refine wo_call rfl rfl (by kernel_rfl) (hnv) rfl rfl ?_
                refine wo_n rfl (nv_assign rfl rfl) rfl rfl ?_
                refine wo_nil ?_
                refine thenW_n ?_
                refine wc_seq ?_
                refine wc_block ?_
                refine wc_seq ?_
                refine wc_region ?_
                refine wo_n rfl (nv_move rfl rfl) rfl rfl ?_
                refine wo_call rfl rfl (by kernel_rfl) (hst) rfl rfl ?_
                refine wo_n rfl (nv_not rfl rfl) rfl rfl ?_
                refine wo_n rfl (nv_assign rfl rfl) rfl rfl ?_
                refine wo_nil ?_
                refine thenW_n ?_
                refine wc_false rfl ?_
                refine wc_seq ?_
                refine wc_region ?_
                refine wo_n rfl (nv_move rfl rfl) rfl rfl ?_
                refine wo_n rfl (nv_nil rfl rfl rfl) rfl rfl ?_
                refine wo_n rfl (nv_fa rfl rfl) rfl rfl ?_
                refine wo_m rfl (mv_load rfl rfl (by assumption)) rfl rfl ?_
                refine wo_n rfl (nv_eqlF rfl rfl rfl (by first | assumption | decide | omega)) rfl rfl ?_
                refine wo_n rfl (nv_assign rfl rfl) rfl rfl ?_
                refine wo_nil ?_
                refine thenW_n ?_
                refine wc_false rfl ?_
                refine wc_seq ?_
                refine wc_region ?_
                refine wo_n rfl (nv_move rfl rfl) rfl rfl ?_
                refine wo_n rfl (nv_nil rfl rfl rfl) rfl rfl ?_
                refine wo_n rfl (nv_fa rfl rfl) rfl rfl ?_
                refine wo_m rfl (mv_load rfl rfl (by assumption)) rfl rfl ?_
                refine wo_n rfl (nv_eqlF rfl rfl rfl (by first | assumption | decide | omega)) rfl rfl ?_
                refine wo_n rfl (nv_assign rfl rfl) rfl rfl ?_
                refine wo_nil ?_
                refine thenW_n ?_
                refine wc_false rfl ?_
                refine wc_seq ?_
                refine wc_region ?_
                refine wo_n rfl (nv_move rfl rfl) rfl rfl ?_
                obtain ⟨n3, k3, w3, l3⟩ := w2.call fun _ _ r => take_false (xb := xb) hX r kopen ho
                refine wo_call rfl rfl (by kernel_rfl) (k3) rfl rfl ?_
                refine wo_n rfl (nv_assign rfl rfl) rfl rfl ?_
                refine wo_nil ?_
                refine thenW_n ?_
                refine wc_false rfl ?_
                refine wc_seq ?_
                refine wc_region ?_
                refine wo_n rfl (nv_move rfl rfl) rfl rfl ?_
                obtain ⟨n4, k4, w4, l4⟩ := w3.call fun _ _ r => take_false (xb := xb) hX r khandle hh2
                refine wo_call rfl rfl (by kernel_rfl) (k4) rfl rfl ?_
                refine wo_n rfl (nv_assign rfl rfl) rfl rfl ?_
                refine wo_nil ?_
                refine thenW_n ?_
                refine wc_false rfl ?_
                refine wc_seq ?_
                refine wc_region ?_
                refine wo_n rfl (nv_move rfl rfl) rfl rfl ?_
                obtain ⟨n5, k5, w5, l5⟩ := w4.call fun _ _ r => take_true (xb := xb) hX r ktrue ht
                have b5 := w5.b
                refine wo_call rfl rfl (by kernel_rfl) (k5) rfl rfl ?_
                refine wo_n rfl (nv_assign rfl rfl) rfl rfl ?_
                refine wo_nil ?_
                refine thenW_n ?_
                refine wc_true rfl ?_
                refine wc_region ?_
                refine wo_n rfl (nv_fa rfl rfl) rfl rfl ?_
                refine wo_store rfl rfl rfl rfl (by assumption) rfl rfl (Nat.le_of_ble_eq_true rfl) rfl ?_
                intro m3 o3 f3 n3
                have w6 : W0 m E pb oN oO g1 { k := 2, at_ := here E P } m3 _ := w5.store o3 f3
                refine wo_n rfl (nv_fa rfl rfl) rfl rfl ?_
                refine wo_store rfl rfl rfl rfl (by assumption) rfl rfl (Nat.le_of_ble_eq_true rfl) rfl ?_
                intro m4 o4 f4 n4
                have w7 : W0 m E pb oN oO g1 { k := 2, num := 1, at_ := here E P } m4 _ := w6.store o4 f4
                have x7 := w7.b.rowAll (n := 10) rfl
                refine wo_nil ?_
                refine blockW_n ?_
                refine thenW_n ?_
                refine wc_seq ?_
                refine wc_region ?_
                refine wo_n rfl (nv_move rfl rfl) rfl rfl ?_
                refine wo_m rfl (mv_loadA rfl rfl (by assumption)) rfl rfl ?_
                obtain ⟨n8, k8, w8, l8⟩ := w7.call fun _ _ r => put_spec (xb := xb) hX.no r { k := 2, num := 1, at_ := here E P }
                refine wo_call rfl rfl (by kernel_rfl) (k8) rfl rfl ?_
                refine wo_n rfl (nv_assign rfl rfl) rfl rfl ?_
                refine wo_nil ?_
                refine thenW_n ?_
                refine wc_ret ?_
                refine endW_ret rfl rfl ?_
                exact ⟨rfl, w8.done⟩
              | false =>
                rw [ht] at hr
                obtain ⟨rfl, rfl⟩ := put_eq hr
                refine ev_of (fun m => hX.no _ _ m (by decide)) Tryd.func57 rfl rfl ?_
                refine wc_seq ?_
                refine wc_region ?_
                refine wo_n rfl (nv_assign rfl rfl) rfl rfl ?_
                refine wo_nil ?_
                refine thenW_n ?_
                refine wc_seq ?_
                refine wc_region ?_
                refine wo_n rfl (nv_move rfl rfl) rfl rfl ?_
                refine wo_call rfl rfl (by kernel_rfl) (hh) rfl rfl ?_
                refine wo_n rfl (nv_buildS rfl rfl rfl) rfl rfl ?_
                refine wo_alloc rfl rfl rfl rfl ?_
                intro g1 m1 o1 f1 l1
                have w1 := Wx.start (.refl h) o1 f1 l1
                refine wo_store rfl rfl rfl rfl (by assumption) rfl rfl (Nat.le_of_ble_eq_true rfl) rfl ?_
                intro m2 o2 f2 n2
                have w2 : W0 m E pb oN oO g1 { at_ := here E P } m2 P := w1.store o2 f2
                refine wo_nil ?_
                refine thenW_n ?_
                refine wc_seq ?_
                refine wc_region ?_
                refine wo_n rfl (nv_move rfl rfl) rfl rfl ?_
                obtain ⟨aN, aO, r0, hn0, s0⟩ := w2.p
                obtain ⟨nv, hnv, hN⟩ := next_spec (xb := xb) hX.no r0
                rw [hnx] at hN
                obtain ⟨tb, tz, rfl, hA, hno, hbl⟩ := hN
                have hk := hA.k
                have hst := starts_spec (xb := xb) hX r0
                rw [hs] at hst
                refine wo_call rfl rfl (by kernel_rfl) (hnv) rfl rfl ?_
                refine wo_n rfl (nv_assign rfl rfl) rfl rfl ?_
                refine wo_nil ?_
                refine thenW_n ?_
                refine wc_seq ?_
                refine wc_block ?_
                refine wc_seq ?_
                refine wc_region ?_
                refine wo_n rfl (nv_move rfl rfl) rfl rfl ?_
                refine wo_call rfl rfl (by kernel_rfl) (hst) rfl rfl ?_
                refine wo_n rfl (nv_not rfl rfl) rfl rfl ?_
                refine wo_n rfl (nv_assign rfl rfl) rfl rfl ?_
                refine wo_nil ?_
                refine thenW_n ?_
                refine wc_false rfl ?_
                refine wc_seq ?_
                refine wc_region ?_
                refine wo_n rfl (nv_move rfl rfl) rfl rfl ?_
                refine wo_n rfl (nv_nil rfl rfl rfl) rfl rfl ?_
                refine wo_n rfl (nv_fa rfl rfl) rfl rfl ?_
                refine wo_m rfl (mv_load rfl rfl (by assumption)) rfl rfl ?_
                refine wo_n rfl (nv_eqlF rfl rfl rfl (by first | assumption | decide | omega)) rfl rfl ?_
                refine wo_n rfl (nv_assign rfl rfl) rfl rfl ?_
                refine wo_nil ?_
                refine thenW_n ?_
                refine wc_false rfl ?_
                refine wc_seq ?_
                refine wc_region ?_
                refine wo_n rfl (nv_move rfl rfl) rfl rfl ?_
                refine wo_n rfl (nv_nil rfl rfl rfl) rfl rfl ?_
                refine wo_n rfl (nv_fa rfl rfl) rfl rfl ?_
                refine wo_m rfl (mv_load rfl rfl (by assumption)) rfl rfl ?_
                refine wo_n rfl (nv_eqlF rfl rfl rfl (by first | assumption | decide | omega)) rfl rfl ?_
                refine wo_n rfl (nv_assign rfl rfl) rfl rfl ?_
                refine wo_nil ?_
                refine thenW_n ?_
                refine wc_false rfl ?_
                refine wc_seq ?_
                refine wc_region ?_
                refine wo_n rfl (nv_move rfl rfl) rfl rfl ?_
                obtain ⟨n3, k3, w3, l3⟩ := w2.call fun _ _ r => take_false (xb := xb) hX r kopen ho
                refine wo_call rfl rfl (by kernel_rfl) (k3) rfl rfl ?_
                refine wo_n rfl (nv_assign rfl rfl) rfl rfl ?_
                refine wo_nil ?_
                refine thenW_n ?_
                refine wc_false rfl ?_
                refine wc_seq ?_
                refine wc_region ?_
                refine wo_n rfl (nv_move rfl rfl) rfl rfl ?_
                obtain ⟨n4, k4, w4, l4⟩ := w3.call fun _ _ r => take_false (xb := xb) hX r khandle hh2
                refine wo_call rfl rfl (by kernel_rfl) (k4) rfl rfl ?_
                refine wo_n rfl (nv_assign rfl rfl) rfl rfl ?_
                refine wo_nil ?_
                refine thenW_n ?_
                refine wc_false rfl ?_
                refine wc_seq ?_
                refine wc_region ?_
                refine wo_n rfl (nv_move rfl rfl) rfl rfl ?_
                obtain ⟨n5, k5, w5, l5⟩ := w4.call fun _ _ r => take_false (xb := xb) hX r ktrue ht
                refine wo_call rfl rfl (by kernel_rfl) (k5) rfl rfl ?_
                refine wo_n rfl (nv_assign rfl rfl) rfl rfl ?_
                refine wo_nil ?_
                refine thenW_n ?_
                refine wc_false rfl ?_
                refine wc_seq ?_
                refine wc_region ?_
                refine wo_n rfl (nv_move rfl rfl) rfl rfl ?_
                obtain ⟨n5', k5', w5', l5'⟩ := w5.call fun _ _ r => take_spec (xb := xb) hX.no r kfalse
                have b5 := w5'.b
                refine wo_call rfl rfl (by kernel_rfl) (k5') rfl rfl ?_
                refine wo_nil ?_
                refine thenW_n ?_
                refine wc_region ?_
                refine wo_n rfl (nv_fa rfl rfl) rfl rfl ?_
                refine wo_store rfl rfl rfl rfl (by assumption) rfl rfl (Nat.le_of_ble_eq_true rfl) rfl ?_
                intro m3 o3 f3 n3
                have w6 : W0 m E pb oN oO g1 { k := 2, at_ := here E P } m3 _ := w5'.store o3 f3
                have x6 := w6.b.rowAll (n := 10) rfl
                refine wo_nil ?_
                refine blockW_n ?_
                refine thenW_n ?_
                refine wc_seq ?_
                refine wc_region ?_
                refine wo_n rfl (nv_move rfl rfl) rfl rfl ?_
                refine wo_m rfl (mv_loadA rfl rfl (by assumption)) rfl rfl ?_
                obtain ⟨n8, k8, w8, l8⟩ := w6.call fun _ _ r => put_spec (xb := xb) hX.no r { k := 2, at_ := here E P }
                refine wo_call rfl rfl (by kernel_rfl) (k8) rfl rfl ?_
                refine wo_n rfl (nv_assign rfl rfl) rfl rfl ?_
                refine wo_nil ?_
                refine thenW_n ?_
                refine wc_ret ?_
                refine endW_ret rfl rfl ?_
                exact ⟨rfl, w8.done⟩
omit hS
theorem spec_all : ∀ n, SpecN xb ext E pb n := by
  intro n
  induction n using Nat.strongRecOn with
  | ind n ih =>
    cases n with
    | zero => exact ⟨fun _ h => by simp [run] at h, fun _ h => by simp [run] at h, fun _ _ h => by simp [run] at h, fun _ h => by simp [run] at h, fun _ h => by simp [run] at h⟩
    | succ n =>
      have hS := ih n (Nat.lt_succ_self n)
      have hA : ∀ k, k ≤ n → SpecN xb ext E pb k := fun k hk => ih k (by omega)
      exact ⟨fun h hr => inner_spec hX hS h hr, fun h hr => expr_spec hX hS h hr, fun hl h hr => level_spec hX hA hl h hr, fun h hr => apply_spec hX hA h hr, fun h hr => atom_spec hX hS h hr⟩
end
end Go.Proofs.YtoedpbjeangdhaaDoor.Sy

namespace Go.Proofs.YtoedpbjeangdhaaDoor.Sy
open Go Go.Ev Go.Ev.Pm Go.Ev.Lm
set_option linter.unusedVariables false
set_option linter.unusedSimpArgs false
set_option linter.unusedSectionVars false
section
variable {m : Mem} {xb : XB} {ext : CallF} (hL : LH xb ext)
include hL
theorem number_spec (l : List UInt8) (hl : l.length ≤ 4096) : ∃ x : Int, Ev Tryd.prog xb ext 41 [vs (txt l)] m (.tup [.int .i64 x, .bool (nOk l)]) m ∧ (nOk l = true → x = (numV l : Nat)) := by
  have hrun := run_spec (m := m) hL l digitsL hl
  have hmd : (fun c => decide (c ∈ digitsL)) = isDig := funext mem_digits
  rw [hmd] at hrun
  suffices hh : ∃ v m', Ev Tryd.prog xb ext 41 [vs (txt l)] m v m' ∧ (m' = m ∧ ∃ x : Int, v = .tup [.int .i64 x, .bool (nOk l)] ∧ (nOk l = true → x = (numV l : Nat))) by
    obtain ⟨v, m', h1, rfl, x, rfl, h2⟩ := hh
    exact ⟨x, h1, h2⟩
  by_cases hd : l.takeWhile isDig = l
  · have had : l.all isDig = true := by
      rw [← hd]
      exact List.all_takeWhile
    have hd' : txt (l.takeWhile isDig) = txt l := by rw [hd]
    have hloop : ∀ (Qx : X → Env → Mem → Prop), True := fun _ => trivial
    by_cases h1 : l.length ≤ 1
    · have hnum : nOk l = decide (numV l ≤ 1073741823) := by simp [nOk, had, h1]
      refine ev_of (fun m => hL.no _ _ m (by decide)) Tryd.func41 rfl rfl ?_
      refine wc_seq ?_
      refine wc_region ?_
      refine wo_n rfl (nv_assign rfl rfl) rfl rfl ?_
      refine wo_n rfl (nv_assign rfl rfl) rfl rfl ?_
      refine wo_nil ?_
      refine thenW_n ?_
      refine wc_seq ?_
      refine wc_seq ?_
      refine wc_region ?_
      refine wo_n rfl (nv_move rfl rfl) rfl rfl ?_
      refine wo_call rfl rfl (by kernel_rfl) (hrun) rfl rfl ?_
      refine wo_n rfl (nv_move rfl rfl) rfl rfl ?_
      refine wo_n rfl (nv_sneqF  rfl rfl rfl (by assumption)) rfl rfl ?_
      refine wo_n rfl (nv_move rfl rfl) rfl rfl ?_
      refine wo_n rfl (nv_move rfl rfl) rfl rfl ?_
      first
        | refine wo_n rfl (nv_lenL rfl rfl rfl) rfl rfl ?_
        | refine wo_n rfl (nv_lenT rfl rfl rfl) rfl rfl ?_
      refine wo_n rfl (nv_gtrF rfl rfl rfl (by first | assumption | decide | omega)) rfl rfl ?_
      refine wo_n rfl (nv_move rfl rfl) rfl rfl ?_
      refine wo_off rfl rfl rfl ?_
      refine wo_off rfl rfl rfl ?_
      refine wo_off rfl rfl rfl ?_
      refine wo_n rfl (nv_pickF rfl rfl rfl) rfl rfl ?_
      refine wo_n rfl (nv_pickF rfl rfl rfl) rfl rfl ?_
      refine wo_nil ?_
      refine thenW_n ?_
      refine wc_false rfl ?_
      refine wc_skip ?_
      refine thenW_n ?_
      refine wc_seq ?_
      refine wc_region ?_
      refine wo_n rfl (nv_assign rfl rfl) rfl rfl ?_
      refine wo_nil ?_
      refine thenW_n ?_
      refine wc_seq ?_
      refine wc_seq ?_
      refine wc_region ?_
      refine wo_n rfl (nv_move rfl rfl) rfl rfl ?_
      first
        | refine wo_n rfl (nv_lenL rfl rfl rfl) rfl rfl ?_
        | refine wo_n rfl (nv_lenT rfl rfl rfl) rfl rfl ?_
      refine wo_n rfl (nv_move rfl rfl) rfl rfl ?_
      refine wo_nil ?_
      refine thenW_n ?_
      refine wc_block ?_
      refine wc_loop (fun q e m' => ∃ i : Nat, q = l.length - i ∧ i ≤ l.length ∧ m' = m ∧ ELe (envL [(0, vs (txt l)), (4, .int .i64 ((numV (l.take i) : Nat) : Int)), (21, .int .i64 (l.length : Nat)), (22, .int .i64 (i : Nat))]) e ∧ numV (l.take i) ≤ 1073741823) l.length ⟨0, rfl, by omega, rfl, ?_, by simp [numV]⟩ ?_
      · exact .cons rfl (.cons rfl (.cons rfl (.cons rfl (.nil _))))
      rintro q e mj ⟨i, rfl, hi, rfl, he, hv⟩
      refine Wc.weak ?_ he
      rcases Nat.lt_or_ge i l.length with hlt | hge
      · have hc : l[i]? = some l[i] := List.getElem?_eq_getElem hlt
        have hdig := dig_of (List.all_eq_true.1 had _ (List.getElem_mem hlt))
        generalize l[i] = c at hc hdig
        have hsn : numV (l.take (i + 1)) = 10 * numV (l.take i) + (c.toNat - 48) := by rw [List.take_add_one, hc]; exact numV_snoc _ _
        have hd1 := hdig.1
        have hd2 := hdig.2
        by_cases hbig : 1073741823 < numV (l.take (i + 1))
        · have hnum2 : nOk l = false := by
            have := numV_take l (i + 1)
            rw [hnum]; simp; omega
          refine wc_seq ?_
          refine wc_region ?_
          refine wo_n rfl (nv_lssT rfl rfl rfl (by first | assumption | decide | omega)) rfl rfl ?_
          refine wo_nil ?_
          refine thenW_n ?_
          refine wc_seq ?_
          refine wc_true rfl ?_
          refine wc_skip ?_
          refine thenW_n ?_
          refine wc_seq ?_
          refine wc_block ?_
          refine wc_seq ?_
          refine wc_region ?_
          refine wo_n rfl (nv_move rfl rfl) rfl rfl ?_
          refine wo_n rfl (nv_assign rfl rfl) rfl rfl ?_
          refine wo_nil ?_
          refine thenW_n ?_
          refine wc_seq ?_
          refine wc_region ?_
          refine wo_n rfl (nv_move rfl rfl) rfl rfl ?_
          refine wo_n rfl (nv_mul rfl rfl rfl rfl (by first | decide | omega) (by first | decide | omega)) rfl rfl ?_
          refine wo_n rfl (nv_move rfl rfl) rfl rfl ?_
          refine wo_n rfl (nv_move rfl rfl) rfl rfl ?_
          refine wo_n rfl (nv_ixS rfl rfl rfl (by assumption)) rfl rfl ?_
          refine wo_n rfl (nv_subB (a := _) (b := 48) rfl rfl rfl (by omega) (by omega)) rfl rfl ?_
          refine wo_n rfl (nv_conv64 rfl rfl (by omega) (by omega)) rfl rfl ?_
          refine wo_n rfl (nv_add rfl rfl rfl rfl (by first | decide | omega) (by first | decide | omega)) rfl rfl ?_
          refine wo_n rfl (nv_assign rfl rfl) rfl rfl ?_
          refine wo_nil ?_
          refine thenW_n ?_
          refine wc_seq ?_
          refine wc_region ?_
          refine wo_n rfl (nv_move rfl rfl) rfl rfl ?_
          refine wo_n rfl (nv_gtrT rfl rfl rfl (by first | assumption | decide | omega)) rfl rfl ?_
          refine wo_nil ?_
          refine thenW_n ?_
          refine wc_true rfl ?_
          refine wc_seq ?_
          refine wc_region ?_
          refine wo_n rfl (nv_assign rfl rfl) rfl rfl ?_
          refine wo_n rfl (nv_assign rfl rfl) rfl rfl ?_
          refine wo_nil ?_
          refine thenW_n ?_
          refine wc_ret ?_
          refine blockW_r ?_
          refine thenW_r ?_
          refine blockW_r ?_
          refine thenW_r ?_
          refine endW_many (by intro i hi; cases hi) rfl (rs := [.tmp 2, .tmp 3]) (.tmp rfl (.tmp rfl .nil)) (by simp) ?_
          exact ⟨rfl, _, by rw [hnum2], fun h => by rw [hnum2] at h; cases h⟩
        · skip
          refine wc_seq ?_
          refine wc_region ?_
          refine wo_n rfl (nv_lssT rfl rfl rfl (by first | assumption | decide | omega)) rfl rfl ?_
          refine wo_nil ?_
          refine thenW_n ?_
          refine wc_seq ?_
          refine wc_true rfl ?_
          refine wc_skip ?_
          refine thenW_n ?_
          refine wc_seq ?_
          refine wc_block ?_
          refine wc_seq ?_
          refine wc_region ?_
          refine wo_n rfl (nv_move rfl rfl) rfl rfl ?_
          refine wo_n rfl (nv_assign rfl rfl) rfl rfl ?_
          refine wo_nil ?_
          refine thenW_n ?_
          refine wc_seq ?_
          refine wc_region ?_
          refine wo_n rfl (nv_move rfl rfl) rfl rfl ?_
          refine wo_n rfl (nv_mul rfl rfl rfl rfl (by first | decide | omega) (by first | decide | omega)) rfl rfl ?_
          refine wo_n rfl (nv_move rfl rfl) rfl rfl ?_
          refine wo_n rfl (nv_move rfl rfl) rfl rfl ?_
          refine wo_n rfl (nv_ixS rfl rfl rfl (by assumption)) rfl rfl ?_
          refine wo_n rfl (nv_subB (a := _) (b := 48) rfl rfl rfl (by omega) (by omega)) rfl rfl ?_
          refine wo_n rfl (nv_conv64 rfl rfl (by omega) (by omega)) rfl rfl ?_
          refine wo_n rfl (nv_add rfl rfl rfl rfl (by first | decide | omega) (by first | decide | omega)) rfl rfl ?_
          refine wo_n rfl (nv_assign rfl rfl) rfl rfl ?_
          refine wo_nil ?_
          refine thenW_n ?_
          refine wc_seq ?_
          refine wc_region ?_
          refine wo_n rfl (nv_move rfl rfl) rfl rfl ?_
          refine wo_n rfl (nv_gtrF rfl rfl rfl (by first | assumption | decide | omega)) rfl rfl ?_
          refine wo_nil ?_
          refine thenW_n ?_
          refine wc_false rfl ?_
          refine wc_skip ?_
          refine blockW_n ?_
          refine thenW_n ?_
          refine wc_region ?_
          refine wo_n rfl (nv_add rfl rfl rfl rfl (by first | decide | omega) (by first | decide | omega)) rfl rfl ?_
          refine wo_n rfl (nv_move rfl rfl) rfl rfl ?_
          refine wo_nil ?_
          refine ⟨l.length - (i + 1), by omega, i + 1, rfl, by omega, rfl, ?_, by omega⟩
          refine .cons rfl (.cons ?_ (.cons rfl (.cons rfl (.nil _))))
          rw [hsn]
          show some (V.int .i64 _) = some (V.int .i64 _)
          congr 2 <;> omega
      · have : i = l.length := by omega
        subst this
        rw [List.take_length] at hv
        have hnum2 : nOk l = true := by rw [hnum]; simp; omega
        refine wc_seq ?_
        refine wc_region ?_
        refine wo_n rfl (nv_lssF rfl rfl rfl (by first | assumption | decide | omega)) rfl rfl ?_
        refine wo_nil ?_
        refine thenW_n ?_
        refine wc_seq ?_
        refine wc_false rfl ?_
        refine wc_exit ?_
        refine thenW_x ?_
        refine blockW_x ?_
        refine thenW_n ?_
        refine wc_seq ?_
        refine wc_region ?_
        refine wo_n rfl (nv_move rfl rfl) rfl rfl ?_
        refine wo_n rfl (nv_assign rfl rfl) rfl rfl ?_
        refine wo_n rfl (nv_assign rfl rfl) rfl rfl ?_
        refine wo_nil ?_
        refine thenW_n ?_
        refine wc_ret ?_
        refine endW_many (by intro i hi; cases hi) rfl (rs := [.tmp 2, .tmp 3]) (.tmp rfl (.tmp rfl .nil)) (by simp) ?_
        exact ⟨rfl, _, by rw [hnum2], fun _ => by rw [List.take_length]⟩
    · cases h48 : l with
      | nil => rw [h48] at h1; simp at h1
      | cons c r =>
        rw [← h48]
        have hc0 : l[0]? = some c := by rw [h48]; rfl
        by_cases hc : c.toNat = 48
        · have hc' : c = 48 := UInt8.toNat_inj.1 hc
          have hnum : nOk l = false := by
            have : decide (l.length ≤ 1) = false := by simp; omega
            unfold nOk
            rw [this, h48, hc']; simp
          refine ev_of (fun m => hL.no _ _ m (by decide)) Tryd.func41 rfl rfl ?_
          refine wc_seq ?_
          refine wc_region ?_
          refine wo_n rfl (nv_assign rfl rfl) rfl rfl ?_
          refine wo_n rfl (nv_assign rfl rfl) rfl rfl ?_
          refine wo_nil ?_
          refine thenW_n ?_
          refine wc_seq ?_
          refine wc_seq ?_
          refine wc_region ?_
          refine wo_n rfl (nv_move rfl rfl) rfl rfl ?_
          refine wo_call rfl rfl (by kernel_rfl) (hrun) rfl rfl ?_
          refine wo_n rfl (nv_move rfl rfl) rfl rfl ?_
          refine wo_n rfl (nv_sneqF  rfl rfl rfl (by assumption)) rfl rfl ?_
          refine wo_n rfl (nv_move rfl rfl) rfl rfl ?_
          refine wo_n rfl (nv_move rfl rfl) rfl rfl ?_
          first
            | refine wo_n rfl (nv_lenL rfl rfl rfl) rfl rfl ?_
            | refine wo_n rfl (nv_lenT rfl rfl rfl) rfl rfl ?_
          refine wo_n rfl (nv_gtrT rfl rfl rfl (by first | assumption | decide | omega)) rfl rfl ?_
          refine wo_n rfl (nv_move rfl rfl) rfl rfl ?_
          refine wo_n rfl (nv_move rfl rfl) rfl rfl ?_
          refine wo_n rfl (nv_ixS (n := 0) rfl rfl rfl (by assumption)) rfl rfl ?_
          refine wo_n rfl (nv_eqlT rfl rfl rfl (by first | assumption | decide | omega)) rfl rfl ?_
          refine wo_n rfl (nv_pickT rfl rfl rfl) rfl rfl ?_
          refine wo_n rfl (nv_pickF rfl rfl rfl) rfl rfl ?_
          refine wo_nil ?_
          refine thenW_n ?_
          refine wc_true rfl ?_
          refine wc_seq ?_
          refine wc_region ?_
          refine wo_n rfl (nv_assign rfl rfl) rfl rfl ?_
          refine wo_n rfl (nv_assign rfl rfl) rfl rfl ?_
          refine wo_nil ?_
          refine thenW_n ?_
          refine wc_ret ?_
          refine thenW_r ?_
          refine endW_many (by intro i hi; cases hi) rfl (rs := [.tmp 2, .tmp 3]) (.tmp rfl (.tmp rfl .nil)) (by simp) ?_
          exact ⟨rfl, _, by rw [hnum], fun h => by rw [hnum] at h; cases h⟩
        · have hnum : nOk l = decide (numV l ≤ 1073741823) := by
            have : (l.head? != some 48) = true := by
              rw [h48]
              simp only [List.head?_cons, bne_iff_ne, ne_eq, Option.some.injEq]
              intro e; rw [e] at hc; exact hc rfl
            unfold nOk
            rw [had, this]; simp
          refine ev_of (fun m => hL.no _ _ m (by decide)) Tryd.func41 rfl rfl ?_
          refine wc_seq ?_
          refine wc_region ?_
          refine wo_n rfl (nv_assign rfl rfl) rfl rfl ?_
          refine wo_n rfl (nv_assign rfl rfl) rfl rfl ?_
          refine wo_nil ?_
          refine thenW_n ?_
          refine wc_seq ?_
          refine wc_seq ?_
          refine wc_region ?_
          refine wo_n rfl (nv_move rfl rfl) rfl rfl ?_
          refine wo_call rfl rfl (by kernel_rfl) (hrun) rfl rfl ?_
          refine wo_n rfl (nv_move rfl rfl) rfl rfl ?_
          refine wo_n rfl (nv_sneqF  rfl rfl rfl (by assumption)) rfl rfl ?_
          refine wo_n rfl (nv_move rfl rfl) rfl rfl ?_
          refine wo_n rfl (nv_move rfl rfl) rfl rfl ?_
          first
            | refine wo_n rfl (nv_lenL rfl rfl rfl) rfl rfl ?_
            | refine wo_n rfl (nv_lenT rfl rfl rfl) rfl rfl ?_
          refine wo_n rfl (nv_gtrT rfl rfl rfl (by first | assumption | decide | omega)) rfl rfl ?_
          refine wo_n rfl (nv_move rfl rfl) rfl rfl ?_
          refine wo_n rfl (nv_move rfl rfl) rfl rfl ?_
          refine wo_n rfl (nv_ixS (n := 0) rfl rfl rfl (by assumption)) rfl rfl ?_
          refine wo_n rfl (nv_eqlF rfl rfl rfl (by first | assumption | decide | omega)) rfl rfl ?_
          refine wo_n rfl (nv_pickT rfl rfl rfl) rfl rfl ?_
          refine wo_n rfl (nv_pickF rfl rfl rfl) rfl rfl ?_
          refine wo_nil ?_
          refine thenW_n ?_
          refine wc_false rfl ?_
          refine wc_skip ?_
          refine thenW_n ?_
          refine wc_seq ?_
          refine wc_region ?_
          refine wo_n rfl (nv_assign rfl rfl) rfl rfl ?_
          refine wo_nil ?_
          refine thenW_n ?_
          refine wc_seq ?_
          refine wc_seq ?_
          refine wc_region ?_
          refine wo_n rfl (nv_move rfl rfl) rfl rfl ?_
          first
            | refine wo_n rfl (nv_lenL rfl rfl rfl) rfl rfl ?_
            | refine wo_n rfl (nv_lenT rfl rfl rfl) rfl rfl ?_
          refine wo_n rfl (nv_move rfl rfl) rfl rfl ?_
          refine wo_nil ?_
          refine thenW_n ?_
          refine wc_block ?_
          refine wc_loop (fun q e m' => ∃ i : Nat, q = l.length - i ∧ i ≤ l.length ∧ m' = m ∧ ELe (envL [(0, vs (txt l)), (4, .int .i64 ((numV (l.take i) : Nat) : Int)), (21, .int .i64 (l.length : Nat)), (22, .int .i64 (i : Nat))]) e ∧ numV (l.take i) ≤ 1073741823) l.length ⟨0, rfl, by omega, rfl, ?_, by simp [numV]⟩ ?_
          · exact .cons rfl (.cons rfl (.cons rfl (.cons rfl (.nil _))))
          rintro q e mj ⟨i, rfl, hi, rfl, he, hv⟩
          refine Wc.weak ?_ he
          rcases Nat.lt_or_ge i l.length with hlt | hge
          · have hc : l[i]? = some l[i] := List.getElem?_eq_getElem hlt
            have hdig := dig_of (List.all_eq_true.1 had _ (List.getElem_mem hlt))
            generalize l[i] = c at hc hdig
            have hsn : numV (l.take (i + 1)) = 10 * numV (l.take i) + (c.toNat - 48) := by rw [List.take_add_one, hc]; exact numV_snoc _ _
            have hd1 := hdig.1
            have hd2 := hdig.2
            by_cases hbig : 1073741823 < numV (l.take (i + 1))
            · have hnum2 : nOk l = false := by
                have := numV_take l (i + 1)
                rw [hnum]; simp; omega
              refine wc_seq ?_
              refine wc_region ?_
              refine wo_n rfl (nv_lssT rfl rfl rfl (by first | assumption | decide | omega)) rfl rfl ?_
              refine wo_nil ?_
              refine thenW_n ?_
              refine wc_seq ?_
              refine wc_true rfl ?_
              refine wc_skip ?_
              refine thenW_n ?_
              refine wc_seq ?_
              refine wc_block ?_
              refine wc_seq ?_
              refine wc_region ?_
              refine wo_n rfl (nv_move rfl rfl) rfl rfl ?_
              refine wo_n rfl (nv_assign rfl rfl) rfl rfl ?_
              refine wo_nil ?_
              refine thenW_n ?_
              refine wc_seq ?_
              refine wc_region ?_
              refine wo_n rfl (nv_move rfl rfl) rfl rfl ?_
              refine wo_n rfl (nv_mul rfl rfl rfl rfl (by first | decide | omega) (by first | decide | omega)) rfl rfl ?_
              refine wo_n rfl (nv_move rfl rfl) rfl rfl ?_
              refine wo_n rfl (nv_move rfl rfl) rfl rfl ?_
              refine wo_n rfl (nv_ixS rfl rfl rfl (by assumption)) rfl rfl ?_
              refine wo_n rfl (nv_subB (a := _) (b := 48) rfl rfl rfl (by omega) (by omega)) rfl rfl ?_
              refine wo_n rfl (nv_conv64 rfl rfl (by omega) (by omega)) rfl rfl ?_
              refine wo_n rfl (nv_add rfl rfl rfl rfl (by first | decide | omega) (by first | decide | omega)) rfl rfl ?_
              refine wo_n rfl (nv_assign rfl rfl) rfl rfl ?_
              refine wo_nil ?_
              refine thenW_n ?_
              refine wc_seq ?_
              refine wc_region ?_
              refine wo_n rfl (nv_move rfl rfl) rfl rfl ?_
              refine wo_n rfl (nv_gtrT rfl rfl rfl (by first | assumption | decide | omega)) rfl rfl ?_
              refine wo_nil ?_
              refine thenW_n ?_
              refine wc_true rfl ?_
              refine wc_seq ?_
              refine wc_region ?_
              refine wo_n rfl (nv_assign rfl rfl) rfl rfl ?_
              refine wo_n rfl (nv_assign rfl rfl) rfl rfl ?_
              refine wo_nil ?_
              refine thenW_n ?_
              refine wc_ret ?_
              refine blockW_r ?_
              refine thenW_r ?_
              refine blockW_r ?_
              refine thenW_r ?_
              refine endW_many (by intro i hi; cases hi) rfl (rs := [.tmp 2, .tmp 3]) (.tmp rfl (.tmp rfl .nil)) (by simp) ?_
              exact ⟨rfl, _, by rw [hnum2], fun h => by rw [hnum2] at h; cases h⟩
            · skip
              refine wc_seq ?_
              refine wc_region ?_
              refine wo_n rfl (nv_lssT rfl rfl rfl (by first | assumption | decide | omega)) rfl rfl ?_
              refine wo_nil ?_
              refine thenW_n ?_
              refine wc_seq ?_
              refine wc_true rfl ?_
              refine wc_skip ?_
              refine thenW_n ?_
              refine wc_seq ?_
              refine wc_block ?_
              refine wc_seq ?_
              refine wc_region ?_
              refine wo_n rfl (nv_move rfl rfl) rfl rfl ?_
              refine wo_n rfl (nv_assign rfl rfl) rfl rfl ?_
              refine wo_nil ?_
              refine thenW_n ?_
              refine wc_seq ?_
              refine wc_region ?_
              refine wo_n rfl (nv_move rfl rfl) rfl rfl ?_
              refine wo_n rfl (nv_mul rfl rfl rfl rfl (by first | decide | omega) (by first | decide | omega)) rfl rfl ?_
              refine wo_n rfl (nv_move rfl rfl) rfl rfl ?_
              refine wo_n rfl (nv_move rfl rfl) rfl rfl ?_
              refine wo_n rfl (nv_ixS rfl rfl rfl (by assumption)) rfl rfl ?_
              refine wo_n rfl (nv_subB (a := _) (b := 48) rfl rfl rfl (by omega) (by omega)) rfl rfl ?_
              refine wo_n rfl (nv_conv64 rfl rfl (by omega) (by omega)) rfl rfl ?_
              refine wo_n rfl (nv_add rfl rfl rfl rfl (by first | decide | omega) (by first | decide | omega)) rfl rfl ?_
              refine wo_n rfl (nv_assign rfl rfl) rfl rfl ?_
              refine wo_nil ?_
              refine thenW_n ?_
              refine wc_seq ?_
              refine wc_region ?_
              refine wo_n rfl (nv_move rfl rfl) rfl rfl ?_
              refine wo_n rfl (nv_gtrF rfl rfl rfl (by first | assumption | decide | omega)) rfl rfl ?_
              refine wo_nil ?_
              refine thenW_n ?_
              refine wc_false rfl ?_
              refine wc_skip ?_
              refine blockW_n ?_
              refine thenW_n ?_
              refine wc_region ?_
              refine wo_n rfl (nv_add rfl rfl rfl rfl (by first | decide | omega) (by first | decide | omega)) rfl rfl ?_
              refine wo_n rfl (nv_move rfl rfl) rfl rfl ?_
              refine wo_nil ?_
              refine ⟨l.length - (i + 1), by omega, i + 1, rfl, by omega, rfl, ?_, by omega⟩
              refine .cons rfl (.cons ?_ (.cons rfl (.cons rfl (.nil _))))
              rw [hsn]
              show some (V.int .i64 _) = some (V.int .i64 _)
              congr 2 <;> omega
          · have : i = l.length := by omega
            subst this
            rw [List.take_length] at hv
            have hnum2 : nOk l = true := by rw [hnum]; simp; omega
            refine wc_seq ?_
            refine wc_region ?_
            refine wo_n rfl (nv_lssF rfl rfl rfl (by first | assumption | decide | omega)) rfl rfl ?_
            refine wo_nil ?_
            refine thenW_n ?_
            refine wc_seq ?_
            refine wc_false rfl ?_
            refine wc_exit ?_
            refine thenW_x ?_
            refine blockW_x ?_
            refine thenW_n ?_
            refine wc_seq ?_
            refine wc_region ?_
            refine wo_n rfl (nv_move rfl rfl) rfl rfl ?_
            refine wo_n rfl (nv_assign rfl rfl) rfl rfl ?_
            refine wo_n rfl (nv_assign rfl rfl) rfl rfl ?_
            refine wo_nil ?_
            refine thenW_n ?_
            refine wc_ret ?_
            refine endW_many (by intro i hi; cases hi) rfl (rs := [.tmp 2, .tmp 3]) (.tmp rfl (.tmp rfl .nil)) (by simp) ?_
            exact ⟨rfl, _, by rw [hnum2], fun _ => by rw [List.take_length]⟩
  · have hd' : txt (l.takeWhile isDig) ≠ txt l := fun e => hd (txt_inj e)
    have hnum : nOk l = false := by
      have : l.all isDig = false := by
        rw [← Bool.not_eq_true]
        intro ha
        exact hd (by rw [tw_at isDig l l.length (Nat.le_refl _) (by rw [List.take_length]; exact ha) (fun c hc => by simp at hc), List.take_length])
      simp [nOk, this]
    refine ev_of (fun m => hL.no _ _ m (by decide)) Tryd.func41 rfl rfl ?_
    refine wc_seq ?_
    refine wc_region ?_
    refine wo_n rfl (nv_assign rfl rfl) rfl rfl ?_
    refine wo_n rfl (nv_assign rfl rfl) rfl rfl ?_
    refine wo_nil ?_
    refine thenW_n ?_
    refine wc_seq ?_
    refine wc_seq ?_
    refine wc_region ?_
    refine wo_n rfl (nv_move rfl rfl) rfl rfl ?_
    refine wo_call rfl rfl (by kernel_rfl) (hrun) rfl rfl ?_
    refine wo_n rfl (nv_move rfl rfl) rfl rfl ?_
    refine wo_n rfl (nv_sneqT  rfl rfl rfl (by assumption)) rfl rfl ?_
    refine wo_n rfl (nv_move rfl rfl) rfl rfl ?_
    refine wo_off rfl rfl rfl ?_
    refine wo_off rfl rfl rfl ?_
    refine wo_off rfl rfl rfl ?_
    refine wo_off rfl rfl rfl ?_
    refine wo_off rfl rfl rfl ?_
    refine wo_off rfl rfl rfl ?_
    refine wo_off rfl rfl rfl ?_
    refine wo_off rfl rfl rfl ?_
    refine wo_n rfl (nv_pickT rfl rfl rfl) rfl rfl ?_
    refine wo_nil ?_
    refine thenW_n ?_
    refine wc_true rfl ?_
    refine wc_seq ?_
    refine wc_region ?_
    refine wo_n rfl (nv_assign rfl rfl) rfl rfl ?_
    refine wo_n rfl (nv_assign rfl rfl) rfl rfl ?_
    refine wo_nil ?_
    refine thenW_n ?_
    refine wc_ret ?_
    refine thenW_r ?_
    refine endW_many (by intro i hi; cases hi) rfl (rs := [.tmp 2, .tmp 3]) (.tmp rfl (.tmp rfl .nil)) (by simp) ?_
    exact ⟨rfl, _, by rw [hnum], fun h => by rw [hnum] at h; cases h⟩
theorem nameMay_spec (hg : Good m.gl) (l : List UInt8) (hl : l.length ≤ 4096) : ∃ m', Ev Tryd.prog xb ext 43 [vs (txt l)] m (.bool (nm l)) m' ∧ Fr F0 m m' := by
  refine ev_to ?_
  have hmm : (fun c => decide (c ∈ moreL)) = isMore := funext mem_more
  cases h : l with
  | nil =>
    have he : txt [] = txt [] := rfl
    refine ev_of (fun m => hL.no _ _ m (by decide)) Tryd.func43 rfl rfl ?_
    refine wc_seq ?_
    refine wc_region ?_
    refine wo_n rfl (nv_assign rfl rfl) rfl rfl ?_
    refine wo_nil ?_
    refine thenW_n ?_
    refine wc_seq ?_
    refine wc_region ?_
    refine wo_n rfl (nv_move rfl rfl) rfl rfl ?_
    refine wo_n rfl (nv_sneqF (u := txt []) rfl rfl (show _ = some (vs (txt [])) by kernel_rfl) (by assumption)) rfl rfl ?_
    refine wo_n rfl (nv_move rfl rfl) rfl rfl ?_
    refine wo_off rfl rfl rfl ?_
    refine wo_off rfl rfl rfl ?_
    refine wo_off rfl rfl rfl ?_
    refine wo_n rfl (nv_pickF rfl rfl rfl) rfl rfl ?_
    refine wo_n rfl (nv_move rfl rfl) rfl rfl ?_
    refine wo_off rfl rfl rfl ?_
    refine wo_off rfl rfl rfl ?_
    refine wo_off rfl rfl rfl ?_
    refine wo_n rfl (nv_pickF rfl rfl rfl) rfl rfl ?_
    refine wo_n rfl (nv_move rfl rfl) rfl rfl ?_
    refine wo_off rfl rfl rfl ?_
    refine wo_off rfl rfl rfl ?_
    refine wo_off rfl rfl rfl ?_
    refine wo_off rfl rfl rfl ?_
    refine wo_n rfl (nv_pickF rfl rfl rfl) rfl rfl ?_
    refine wo_n rfl (nv_move rfl rfl) rfl rfl ?_
    refine wo_off rfl rfl rfl ?_
    refine wo_off rfl rfl rfl ?_
    refine wo_off rfl rfl rfl ?_
    refine wo_n rfl (nv_pickF rfl rfl rfl) rfl rfl ?_
    refine wo_n rfl (nv_assign rfl rfl) rfl rfl ?_
    refine wo_nil ?_
    refine thenW_n ?_
    refine wc_ret ?_
    refine endW_ret rfl rfl ?_
    exact ⟨rfl, Fr.refl _ _⟩
  | cons c r =>
    rw [← h]
    have hne : txt l ≠ txt [] := fun e => by have := txt_inj e; rw [h] at this; cases this
    have hc0 : l[0]? = some c := by rw [h]; rfl
    have hnm : nm l = (decide (l.length ≤ 16) && (isLet c && (l.all isMore && !kw l))) := by rw [h]; rfl
    by_cases h16 : l.length ≤ 16
    · have ho := of_spec (m := m) hL lettersL c
      rw [mem_letters] at ho
      cases hlet : isLet c with
      | false =>
        rw [hlet] at ho
        refine ev_of (fun m => hL.no _ _ m (by decide)) Tryd.func43 rfl rfl ?_
        refine wc_seq ?_
        refine wc_region ?_
        refine wo_n rfl (nv_assign rfl rfl) rfl rfl ?_
        refine wo_nil ?_
        refine thenW_n ?_
        refine wc_seq ?_
        refine wc_region ?_
        refine wo_n rfl (nv_move rfl rfl) rfl rfl ?_
        refine wo_n rfl (nv_sneqT (u := txt []) rfl rfl (show _ = some (vs (txt [])) by kernel_rfl) (by assumption)) rfl rfl ?_
        refine wo_n rfl (nv_move rfl rfl) rfl rfl ?_
        refine wo_n rfl (nv_move rfl rfl) rfl rfl ?_
        first
          | refine wo_n rfl (nv_lenL rfl rfl rfl) rfl rfl ?_
          | refine wo_n rfl (nv_lenT rfl rfl rfl) rfl rfl ?_
        refine wo_n rfl (nv_leqT rfl rfl rfl (by first | assumption | decide | omega)) rfl rfl ?_
        refine wo_n rfl (nv_pickT rfl rfl rfl) rfl rfl ?_
        refine wo_n rfl (nv_move rfl rfl) rfl rfl ?_
        refine wo_n rfl (nv_move rfl rfl) rfl rfl ?_
        refine wo_n rfl (nv_ixS (n := 0) rfl rfl rfl (by assumption)) rfl rfl ?_
        refine wo_call rfl rfl (by kernel_rfl) (ho) rfl rfl ?_
        refine wo_n rfl (nv_pickT rfl rfl rfl) rfl rfl ?_
        refine wo_n rfl (nv_move rfl rfl) rfl rfl ?_
        refine wo_off rfl rfl rfl ?_
        refine wo_off rfl rfl rfl ?_
        refine wo_off rfl rfl rfl ?_
        refine wo_off rfl rfl rfl ?_
        refine wo_n rfl (nv_pickF rfl rfl rfl) rfl rfl ?_
        refine wo_n rfl (nv_move rfl rfl) rfl rfl ?_
        refine wo_off rfl rfl rfl ?_
        refine wo_off rfl rfl rfl ?_
        refine wo_off rfl rfl rfl ?_
        refine wo_n rfl (nv_pickF rfl rfl rfl) rfl rfl ?_
        refine wo_n rfl (nv_assign rfl rfl) rfl rfl ?_
        refine wo_nil ?_
        refine thenW_n ?_
        refine wc_ret ?_
        refine endW_ret rfl rfl ?_
        exact ⟨by rw [hnm, hlet]; simp, Fr.refl _ _⟩
      | true =>
        rw [hlet] at ho
        have hr := run_spec (m := m) hL l moreL hl
        rw [hmm] at hr
        by_cases hall : l.takeWhile isMore = l
        · have hall' : txt (l.takeWhile isMore) = txt l := by rw [hall]
          have hallb : l.all isMore = true := by rw [← hall]; exact List.all_takeWhile
          obtain ⟨mk, hk, fk⟩ := keyword_spec hL hg l
          refine ev_of (fun m => hL.no _ _ m (by decide)) Tryd.func43 rfl rfl ?_
          refine wc_seq ?_
          refine wc_region ?_
          refine wo_n rfl (nv_assign rfl rfl) rfl rfl ?_
          refine wo_nil ?_
          refine thenW_n ?_
          refine wc_seq ?_
          refine wc_region ?_
          refine wo_n rfl (nv_move rfl rfl) rfl rfl ?_
          refine wo_n rfl (nv_sneqT (u := txt []) rfl rfl (show _ = some (vs (txt [])) by kernel_rfl) (by assumption)) rfl rfl ?_
          refine wo_n rfl (nv_move rfl rfl) rfl rfl ?_
          refine wo_n rfl (nv_move rfl rfl) rfl rfl ?_
          first
            | refine wo_n rfl (nv_lenL rfl rfl rfl) rfl rfl ?_
            | refine wo_n rfl (nv_lenT rfl rfl rfl) rfl rfl ?_
          refine wo_n rfl (nv_leqT rfl rfl rfl (by first | assumption | decide | omega)) rfl rfl ?_
          refine wo_n rfl (nv_pickT rfl rfl rfl) rfl rfl ?_
          refine wo_n rfl (nv_move rfl rfl) rfl rfl ?_
          refine wo_n rfl (nv_move rfl rfl) rfl rfl ?_
          refine wo_n rfl (nv_ixS (n := 0) rfl rfl rfl (by assumption)) rfl rfl ?_
          refine wo_call rfl rfl (by kernel_rfl) (ho) rfl rfl ?_
          refine wo_n rfl (nv_pickT rfl rfl rfl) rfl rfl ?_
          refine wo_n rfl (nv_move rfl rfl) rfl rfl ?_
          refine wo_n rfl (nv_move rfl rfl) rfl rfl ?_
          refine wo_call rfl rfl (by kernel_rfl) (hr) rfl rfl ?_
          refine wo_n rfl (nv_move rfl rfl) rfl rfl ?_
          refine wo_n rfl (nv_seqlT  rfl rfl rfl (by assumption)) rfl rfl ?_
          refine wo_n rfl (nv_pickT rfl rfl rfl) rfl rfl ?_
          refine wo_n rfl (nv_move rfl rfl) rfl rfl ?_
          refine wo_n rfl (nv_move rfl rfl) rfl rfl ?_
          refine wo_call rfl rfl (by kernel_rfl) (hk) rfl rfl ?_
          refine wo_n rfl (nv_not rfl rfl) rfl rfl ?_
          refine wo_n rfl (nv_pickT rfl rfl rfl) rfl rfl ?_
          refine wo_n rfl (nv_assign rfl rfl) rfl rfl ?_
          refine wo_nil ?_
          refine thenW_n ?_
          refine wc_ret ?_
          refine endW_ret rfl rfl ?_
          exact ⟨by rw [hnm, hlet, hallb]; simp [h16], fk⟩
        · have hall' : txt (l.takeWhile isMore) ≠ txt l := fun e => hall (txt_inj e)
          have hallb : l.all isMore = false := by
            rw [← Bool.not_eq_true]
            intro ha
            exact hall (by rw [tw_at isMore l l.length (Nat.le_refl _) (by rw [List.take_length]; exact ha) (fun c hc => by simp at hc), List.take_length])
          refine ev_of (fun m => hL.no _ _ m (by decide)) Tryd.func43 rfl rfl ?_
          refine wc_seq ?_
          refine wc_region ?_
          refine wo_n rfl (nv_assign rfl rfl) rfl rfl ?_
          refine wo_nil ?_
          refine thenW_n ?_
          refine wc_seq ?_
          refine wc_region ?_
          refine wo_n rfl (nv_move rfl rfl) rfl rfl ?_
          refine wo_n rfl (nv_sneqT (u := txt []) rfl rfl (show _ = some (vs (txt [])) by kernel_rfl) (by assumption)) rfl rfl ?_
          refine wo_n rfl (nv_move rfl rfl) rfl rfl ?_
          refine wo_n rfl (nv_move rfl rfl) rfl rfl ?_
          first
            | refine wo_n rfl (nv_lenL rfl rfl rfl) rfl rfl ?_
            | refine wo_n rfl (nv_lenT rfl rfl rfl) rfl rfl ?_
          refine wo_n rfl (nv_leqT rfl rfl rfl (by first | assumption | decide | omega)) rfl rfl ?_
          refine wo_n rfl (nv_pickT rfl rfl rfl) rfl rfl ?_
          refine wo_n rfl (nv_move rfl rfl) rfl rfl ?_
          refine wo_n rfl (nv_move rfl rfl) rfl rfl ?_
          refine wo_n rfl (nv_ixS (n := 0) rfl rfl rfl (by assumption)) rfl rfl ?_
          refine wo_call rfl rfl (by kernel_rfl) (ho) rfl rfl ?_
          refine wo_n rfl (nv_pickT rfl rfl rfl) rfl rfl ?_
          refine wo_n rfl (nv_move rfl rfl) rfl rfl ?_
          refine wo_n rfl (nv_move rfl rfl) rfl rfl ?_
          refine wo_call rfl rfl (by kernel_rfl) (hr) rfl rfl ?_
          refine wo_n rfl (nv_move rfl rfl) rfl rfl ?_
          refine wo_n rfl (nv_seqlF  rfl rfl rfl (by assumption)) rfl rfl ?_
          refine wo_n rfl (nv_pickT rfl rfl rfl) rfl rfl ?_
          refine wo_n rfl (nv_move rfl rfl) rfl rfl ?_
          refine wo_off rfl rfl rfl ?_
          refine wo_off rfl rfl rfl ?_
          refine wo_off rfl rfl rfl ?_
          refine wo_n rfl (nv_pickF rfl rfl rfl) rfl rfl ?_
          refine wo_n rfl (nv_assign rfl rfl) rfl rfl ?_
          refine wo_nil ?_
          refine thenW_n ?_
          refine wc_ret ?_
          refine endW_ret rfl rfl ?_
          exact ⟨by rw [hnm, hallb]; simp, Fr.refl _ _⟩
    · refine ev_of (fun m => hL.no _ _ m (by decide)) Tryd.func43 rfl rfl ?_
      refine wc_seq ?_
      refine wc_region ?_
      refine wo_n rfl (nv_assign rfl rfl) rfl rfl ?_
      refine wo_nil ?_
      refine thenW_n ?_
      refine wc_seq ?_
      refine wc_region ?_
      refine wo_n rfl (nv_move rfl rfl) rfl rfl ?_
      refine wo_n rfl (nv_sneqT (u := txt []) rfl rfl (show _ = some (vs (txt [])) by kernel_rfl) (by assumption)) rfl rfl ?_
      refine wo_n rfl (nv_move rfl rfl) rfl rfl ?_
      refine wo_n rfl (nv_move rfl rfl) rfl rfl ?_
      first
        | refine wo_n rfl (nv_lenL rfl rfl rfl) rfl rfl ?_
        | refine wo_n rfl (nv_lenT rfl rfl rfl) rfl rfl ?_
      refine wo_n rfl (nv_leqF rfl rfl rfl (by first | assumption | decide | omega)) rfl rfl ?_
      refine wo_n rfl (nv_pickT rfl rfl rfl) rfl rfl ?_
      refine wo_n rfl (nv_move rfl rfl) rfl rfl ?_
      refine wo_off rfl rfl rfl ?_
      refine wo_off rfl rfl rfl ?_
      refine wo_off rfl rfl rfl ?_
      refine wo_n rfl (nv_pickF rfl rfl rfl) rfl rfl ?_
      refine wo_n rfl (nv_move rfl rfl) rfl rfl ?_
      refine wo_off rfl rfl rfl ?_
      refine wo_off rfl rfl rfl ?_
      refine wo_off rfl rfl rfl ?_
      refine wo_off rfl rfl rfl ?_
      refine wo_n rfl (nv_pickF rfl rfl rfl) rfl rfl ?_
      refine wo_n rfl (nv_move rfl rfl) rfl rfl ?_
      refine wo_off rfl rfl rfl ?_
      refine wo_off rfl rfl rfl ?_
      refine wo_off rfl rfl rfl ?_
      refine wo_n rfl (nv_pickF rfl rfl rfl) rfl rfl ?_
      refine wo_n rfl (nv_assign rfl rfl) rfl rfl ?_
      refine wo_nil ?_
      refine thenW_n ?_
      refine wc_ret ?_
      refine endW_ret rfl rfl ?_
      exact ⟨by rw [hnm]; simp [h16], Fr.refl _ _⟩
end
end Go.Proofs.YtoedpbjeangdhaaDoor.Sy
