/- Several texts in one: contracts of functions of the program, and what they lean on. In part written by a program of this session over the kit's print, in part by hand. -/
import Derived.Test.YtoedpbjeangdhaaDoorYParseMany8
namespace Go.Proofs.YtoedpbjeangdhaaDoor.Sy
open Go Go.Ev Go.Ev.Pm Go.Ev.Lm
set_option linter.unusedVariables false
set_option linter.unusedSimpArgs false
set_option linter.unusedSectionVars false
section
variable {m : Mem} {xb : XB} {ext : CallF} (hL : LH xb ext)
include hL
theorem width_spec (l : List UInt8) : Ev Tryd.prog xb ext 36 [vs (txt l)] m (.int .i64 (widM l : Nat)) m := by
  refine ev_val ?_
  cases hl : l with
  | nil =>
    have he : txt [] = txt [] := rfl
    refine ev_of (fun m => hL.no _ _ m (by decide)) Tryd.func36 rfl rfl ?_
    refine wc_seq ?_
    refine wc_region ?_
    refine wo_n rfl (nv_assign rfl rfl) rfl rfl ?_
    refine wo_nil ?_
    refine thenW_n ?_
    refine wc_seq ?_
    refine wc_seq ?_
    refine wc_region ?_
    refine wo_n rfl (nv_move rfl rfl) rfl rfl ?_
    refine wo_n rfl (nv_seqlT (u := txt []) rfl rfl (show _ = some (vs (txt [])) by kernel_rfl) (by assumption)) rfl rfl ?_
    refine wo_nil ?_
    refine thenW_n ?_
    refine wc_true rfl ?_
    refine wc_seq ?_
    refine wc_region ?_
    refine wo_n rfl (nv_assign rfl rfl) rfl rfl ?_
    refine wo_nil ?_
    refine thenW_n ?_
    refine wc_ret ?_
    refine thenW_r ?_
    refine endW_ret rfl rfl ?_
    exact ⟨rfl, rfl⟩
  | cons b r =>
    rw [← hl]
    have hne : txt l ≠ txt [] := fun e => by have := txt_inj e; rw [hl] at this; cases this
    have h0 : l[0]? = some b := by rw [hl]; rfl
    have hlen : l.length = r.length + 1 := by rw [hl]; rfl
    obtain ⟨lo, hi, hld, hlm⟩ := lead_spec (m := m) hL b
    generalize hk : (leadM b.toNat).1 = k at hld hlm
    have hk4 : k = 0 ∨ k = 1 ∨ k = 2 ∨ k = 3 ∨ k = 4 := by
      rw [← hk]; unfold leadM; repeat' split
      all_goals simp
    rcases hk4 with rfl | rfl | rfl | rfl | rfl
    · have hw : widM l = 0 := by rw [hl]; simp [widM, hlm]
      refine ev_of (fun m => hL.no _ _ m (by decide)) Tryd.func36 rfl rfl ?_
      refine wc_seq ?_
      refine wc_region ?_
      refine wo_n rfl (nv_assign rfl rfl) rfl rfl ?_
      refine wo_nil ?_
      refine thenW_n ?_
      refine wc_seq ?_
      refine wc_seq ?_
      refine wc_region ?_
      refine wo_n rfl (nv_move rfl rfl) rfl rfl ?_
      refine wo_n rfl (nv_seqlF (u := txt []) rfl rfl (show _ = some (vs (txt [])) by kernel_rfl) (by assumption)) rfl rfl ?_
      refine wo_nil ?_
      refine thenW_n ?_
      refine wc_false rfl ?_
      refine wc_skip ?_
      refine thenW_n ?_
      refine wc_seq ?_
      refine wc_region ?_
      refine wo_n rfl (nv_move rfl rfl) rfl rfl ?_
      refine wo_n rfl (nv_ixS (n := 0) rfl rfl rfl (by assumption)) rfl rfl ?_
      refine wo_call rfl rfl (by kernel_rfl) (hld) rfl rfl ?_
      refine wo_n rfl (nv_move rfl rfl) rfl rfl ?_
      refine wo_n rfl (nv_ex rfl rfl rfl) rfl rfl ?_
      refine wo_n rfl (nv_ex rfl rfl rfl) rfl rfl ?_
      refine wo_n rfl (nv_ex rfl rfl rfl) rfl rfl ?_
      refine wo_n rfl (nv_assign rfl rfl) rfl rfl ?_
      refine wo_n rfl (nv_assign rfl rfl) rfl rfl ?_
      refine wo_n rfl (nv_assign rfl rfl) rfl rfl ?_
      refine wo_nil ?_
      refine thenW_n ?_
      refine wc_seq ?_
      refine wc_seq ?_
      refine wc_region ?_
      refine wo_n rfl (nv_move rfl rfl) rfl rfl ?_
      refine wo_n rfl (nv_move rfl rfl) rfl rfl ?_
      first
        | refine wo_n rfl (nv_lenL rfl rfl rfl) rfl rfl ?_
        | refine wo_n rfl (nv_lenT rfl rfl rfl) rfl rfl ?_
      refine wo_n rfl (nv_gtrF rfl rfl rfl (by first | assumption | decide | omega)) rfl rfl ?_
      refine wo_nil ?_
      refine thenW_n ?_
      refine wc_false rfl ?_
      refine wc_skip ?_
      refine thenW_n ?_
      refine wc_seq ?_
      refine wc_region ?_
      refine wo_n rfl (nv_assign rfl rfl) rfl rfl ?_
      refine wo_nil ?_
      refine thenW_n ?_
      refine wc_seq ?_
      refine wc_seq ?_
      refine wc_region ?_
      refine wo_n rfl (nv_move rfl rfl) rfl rfl ?_
      refine wo_nil ?_
      refine thenW_n ?_
      refine wc_block ?_
      refine wc_seq ?_
      refine wc_block ?_
      refine wc_seq ?_
      refine wc_block ?_
      refine wc_seq ?_
      refine wc_block ?_
      refine wc_seq ?_
      refine wc_seq ?_
      refine wc_seq ?_
      refine wc_region ?_
      refine wo_n rfl (nv_eqlF rfl rfl rfl (by first | assumption | decide | omega)) rfl rfl ?_
      refine wo_n rfl (nv_assign rfl rfl) rfl rfl ?_
      refine wo_nil ?_
      refine thenW_n ?_
      refine wc_false rfl ?_
      refine wc_skip ?_
      refine thenW_n ?_
      refine wc_seq ?_
      refine wc_seq ?_
      refine wc_region ?_
      refine wo_n rfl (nv_eqlF rfl rfl rfl (by first | assumption | decide | omega)) rfl rfl ?_
      refine wo_n rfl (nv_assign rfl rfl) rfl rfl ?_
      refine wo_nil ?_
      refine thenW_n ?_
      refine wc_false rfl ?_
      refine wc_skip ?_
      refine thenW_n ?_
      refine wc_seq ?_
      refine wc_region ?_
      refine wo_n rfl (nv_eqlF rfl rfl rfl (by first | assumption | decide | omega)) rfl rfl ?_
      refine wo_n rfl (nv_assign rfl rfl) rfl rfl ?_
      refine wo_nil ?_
      refine thenW_n ?_
      refine wc_false rfl ?_
      refine wc_skip ?_
      refine thenW_n ?_
      refine wc_exit ?_
      refine blockW_y rfl ?_
      refine thenW_x ?_
      refine blockW_y rfl ?_
      refine thenW_x ?_
      refine blockW_y rfl ?_
      refine thenW_x ?_
      refine blockW_x ?_
      refine thenW_n ?_
      refine wc_seq ?_
      refine wc_seq ?_
      refine wc_region ?_
      refine wo_n rfl (nv_move rfl rfl) rfl rfl ?_
      refine wo_n rfl (nv_not rfl rfl) rfl rfl ?_
      refine wo_nil ?_
      refine thenW_n ?_
      refine wc_false rfl ?_
      refine wc_skip ?_
      refine thenW_n ?_
      refine wc_seq ?_
      refine wc_region ?_
      refine wo_n rfl (nv_move rfl rfl) rfl rfl ?_
      refine wo_n rfl (nv_assign rfl rfl) rfl rfl ?_
      refine wo_nil ?_
      refine thenW_n ?_
      refine wc_ret ?_
      refine endW_ret rfl rfl ?_
      exact ⟨rfl, by rw [hw]⟩
    · have hw : widM l = 1 := by rw [hl]; simp [widM, hlm]
      refine ev_of (fun m => hL.no _ _ m (by decide)) Tryd.func36 rfl rfl ?_
      refine wc_seq ?_
      refine wc_region ?_
      refine wo_n rfl (nv_assign rfl rfl) rfl rfl ?_
      refine wo_nil ?_
      refine thenW_n ?_
      refine wc_seq ?_
      refine wc_seq ?_
      refine wc_region ?_
      refine wo_n rfl (nv_move rfl rfl) rfl rfl ?_
      refine wo_n rfl (nv_seqlF (u := txt []) rfl rfl (show _ = some (vs (txt [])) by kernel_rfl) (by assumption)) rfl rfl ?_
      refine wo_nil ?_
      refine thenW_n ?_
      refine wc_false rfl ?_
      refine wc_skip ?_
      refine thenW_n ?_
      refine wc_seq ?_
      refine wc_region ?_
      refine wo_n rfl (nv_move rfl rfl) rfl rfl ?_
      refine wo_n rfl (nv_ixS (n := 0) rfl rfl rfl (by assumption)) rfl rfl ?_
      refine wo_call rfl rfl (by kernel_rfl) (hld) rfl rfl ?_
      refine wo_n rfl (nv_move rfl rfl) rfl rfl ?_
      refine wo_n rfl (nv_ex rfl rfl rfl) rfl rfl ?_
      refine wo_n rfl (nv_ex rfl rfl rfl) rfl rfl ?_
      refine wo_n rfl (nv_ex rfl rfl rfl) rfl rfl ?_
      refine wo_n rfl (nv_assign rfl rfl) rfl rfl ?_
      refine wo_n rfl (nv_assign rfl rfl) rfl rfl ?_
      refine wo_n rfl (nv_assign rfl rfl) rfl rfl ?_
      refine wo_nil ?_
      refine thenW_n ?_
      refine wc_seq ?_
      refine wc_seq ?_
      refine wc_region ?_
      refine wo_n rfl (nv_move rfl rfl) rfl rfl ?_
      refine wo_n rfl (nv_move rfl rfl) rfl rfl ?_
      first
        | refine wo_n rfl (nv_lenL rfl rfl rfl) rfl rfl ?_
        | refine wo_n rfl (nv_lenT rfl rfl rfl) rfl rfl ?_
      refine wo_n rfl (nv_gtrF rfl rfl rfl (by first | assumption | decide | omega)) rfl rfl ?_
      refine wo_nil ?_
      refine thenW_n ?_
      refine wc_false rfl ?_
      refine wc_skip ?_
      refine thenW_n ?_
      refine wc_seq ?_
      refine wc_region ?_
      refine wo_n rfl (nv_assign rfl rfl) rfl rfl ?_
      refine wo_nil ?_
      refine thenW_n ?_
      refine wc_seq ?_
      refine wc_seq ?_
      refine wc_region ?_
      refine wo_n rfl (nv_move rfl rfl) rfl rfl ?_
      refine wo_nil ?_
      refine thenW_n ?_
      refine wc_block ?_
      refine wc_seq ?_
      refine wc_block ?_
      refine wc_seq ?_
      refine wc_block ?_
      refine wc_seq ?_
      refine wc_block ?_
      refine wc_seq ?_
      refine wc_seq ?_
      refine wc_seq ?_
      refine wc_region ?_
      refine wo_n rfl (nv_eqlF rfl rfl rfl (by first | assumption | decide | omega)) rfl rfl ?_
      refine wo_n rfl (nv_assign rfl rfl) rfl rfl ?_
      refine wo_nil ?_
      refine thenW_n ?_
      refine wc_false rfl ?_
      refine wc_skip ?_
      refine thenW_n ?_
      refine wc_seq ?_
      refine wc_seq ?_
      refine wc_region ?_
      refine wo_n rfl (nv_eqlF rfl rfl rfl (by first | assumption | decide | omega)) rfl rfl ?_
      refine wo_n rfl (nv_assign rfl rfl) rfl rfl ?_
      refine wo_nil ?_
      refine thenW_n ?_
      refine wc_false rfl ?_
      refine wc_skip ?_
      refine thenW_n ?_
      refine wc_seq ?_
      refine wc_region ?_
      refine wo_n rfl (nv_eqlF rfl rfl rfl (by first | assumption | decide | omega)) rfl rfl ?_
      refine wo_n rfl (nv_assign rfl rfl) rfl rfl ?_
      refine wo_nil ?_
      refine thenW_n ?_
      refine wc_false rfl ?_
      refine wc_skip ?_
      refine thenW_n ?_
      refine wc_exit ?_
      refine blockW_y rfl ?_
      refine thenW_x ?_
      refine blockW_y rfl ?_
      refine thenW_x ?_
      refine blockW_y rfl ?_
      refine thenW_x ?_
      refine blockW_x ?_
      refine thenW_n ?_
      refine wc_seq ?_
      refine wc_seq ?_
      refine wc_region ?_
      refine wo_n rfl (nv_move rfl rfl) rfl rfl ?_
      refine wo_n rfl (nv_not rfl rfl) rfl rfl ?_
      refine wo_nil ?_
      refine thenW_n ?_
      refine wc_false rfl ?_
      refine wc_skip ?_
      refine thenW_n ?_
      refine wc_seq ?_
      refine wc_region ?_
      refine wo_n rfl (nv_move rfl rfl) rfl rfl ?_
      refine wo_n rfl (nv_assign rfl rfl) rfl rfl ?_
      refine wo_nil ?_
      refine thenW_n ?_
      refine wc_ret ?_
      refine endW_ret rfl rfl ?_
      exact ⟨rfl, by rw [hw]⟩
    · by_cases hs : 2 ≤ l.length
      · skip
        obtain ⟨c, r', hr⟩ : ∃ c r', r = c :: r' := by
          match r, hlen with
          | c :: r', _ => exact ⟨_, r', rfl⟩
          | [], h => simp at h; omega
        have h1 : l[1]? = some c := by rw [hl, hr]; rfl
        by_cases g1 : lo ≤ c.toNat
        · by_cases g2 : c.toNat ≤ hi
          · have hw : widM l = 2 := by rw [hl, hr]; simp [widM, hlm, secM, g1, g2]
            refine ev_of (fun m => hL.no _ _ m (by decide)) Tryd.func36 rfl rfl ?_
            refine wc_seq ?_
            refine wc_region ?_
            refine wo_n rfl (nv_assign rfl rfl) rfl rfl ?_
            refine wo_nil ?_
            refine thenW_n ?_
            refine wc_seq ?_
            refine wc_seq ?_
            refine wc_region ?_
            refine wo_n rfl (nv_move rfl rfl) rfl rfl ?_
            refine wo_n rfl (nv_seqlF (u := txt []) rfl rfl (show _ = some (vs (txt [])) by kernel_rfl) (by assumption)) rfl rfl ?_
            refine wo_nil ?_
            refine thenW_n ?_
            refine wc_false rfl ?_
            refine wc_skip ?_
            refine thenW_n ?_
            refine wc_seq ?_
            refine wc_region ?_
            refine wo_n rfl (nv_move rfl rfl) rfl rfl ?_
            refine wo_n rfl (nv_ixS (n := 0) rfl rfl rfl (by assumption)) rfl rfl ?_
            refine wo_call rfl rfl (by kernel_rfl) (hld) rfl rfl ?_
            refine wo_n rfl (nv_move rfl rfl) rfl rfl ?_
            refine wo_n rfl (nv_ex rfl rfl rfl) rfl rfl ?_
            refine wo_n rfl (nv_ex rfl rfl rfl) rfl rfl ?_
            refine wo_n rfl (nv_ex rfl rfl rfl) rfl rfl ?_
            refine wo_n rfl (nv_assign rfl rfl) rfl rfl ?_
            refine wo_n rfl (nv_assign rfl rfl) rfl rfl ?_
            refine wo_n rfl (nv_assign rfl rfl) rfl rfl ?_
            refine wo_nil ?_
            refine thenW_n ?_
            refine wc_seq ?_
            refine wc_seq ?_
            refine wc_region ?_
            refine wo_n rfl (nv_move rfl rfl) rfl rfl ?_
            refine wo_n rfl (nv_move rfl rfl) rfl rfl ?_
            first
              | refine wo_n rfl (nv_lenL rfl rfl rfl) rfl rfl ?_
              | refine wo_n rfl (nv_lenT rfl rfl rfl) rfl rfl ?_
            refine wo_n rfl (nv_gtrF rfl rfl rfl (by first | assumption | decide | omega)) rfl rfl ?_
            refine wo_nil ?_
            refine thenW_n ?_
            refine wc_false rfl ?_
            refine wc_skip ?_
            refine thenW_n ?_
            refine wc_seq ?_
            refine wc_region ?_
            refine wo_n rfl (nv_assign rfl rfl) rfl rfl ?_
            refine wo_nil ?_
            refine thenW_n ?_
            refine wc_seq ?_
            refine wc_seq ?_
            refine wc_region ?_
            refine wo_n rfl (nv_move rfl rfl) rfl rfl ?_
            refine wo_nil ?_
            refine thenW_n ?_
            refine wc_block ?_
            refine wc_seq ?_
            refine wc_block ?_
            refine wc_seq ?_
            refine wc_block ?_
            refine wc_seq ?_
            refine wc_block ?_
            refine wc_seq ?_
            refine wc_seq ?_
            refine wc_seq ?_
            refine wc_region ?_
            refine wo_n rfl (nv_eqlF rfl rfl rfl (by first | assumption | decide | omega)) rfl rfl ?_
            refine wo_n rfl (nv_assign rfl rfl) rfl rfl ?_
            refine wo_nil ?_
            refine thenW_n ?_
            refine wc_false rfl ?_
            refine wc_skip ?_
            refine thenW_n ?_
            refine wc_seq ?_
            refine wc_seq ?_
            refine wc_region ?_
            refine wo_n rfl (nv_eqlF rfl rfl rfl (by first | assumption | decide | omega)) rfl rfl ?_
            refine wo_n rfl (nv_assign rfl rfl) rfl rfl ?_
            refine wo_nil ?_
            refine thenW_n ?_
            refine wc_false rfl ?_
            refine wc_skip ?_
            refine thenW_n ?_
            refine wc_seq ?_
            refine wc_region ?_
            refine wo_n rfl (nv_eqlT rfl rfl rfl (by first | assumption | decide | omega)) rfl rfl ?_
            refine wo_n rfl (nv_assign rfl rfl) rfl rfl ?_
            refine wo_nil ?_
            refine thenW_n ?_
            refine wc_true rfl ?_
            refine wc_exit ?_
            refine thenW_x ?_
            refine blockW_y rfl ?_
            refine thenW_x ?_
            refine blockW_y rfl ?_
            refine thenW_x ?_
            refine blockW_x ?_
            refine thenW_n ?_
            refine wc_seq ?_
            refine wc_region ?_
            refine wo_n rfl (nv_move rfl rfl) rfl rfl ?_
            refine wo_n rfl (nv_move rfl rfl) rfl rfl ?_
            refine wo_n rfl (nv_move rfl rfl) rfl rfl ?_
            refine wo_n rfl (nv_ixS (n := 1) rfl rfl rfl (by assumption)) rfl rfl ?_
            refine wo_n rfl (nv_move rfl rfl) rfl rfl ?_
            refine wo_n rfl (nv_geqT rfl rfl rfl (by first | assumption | decide | omega)) rfl rfl ?_
            refine wo_n rfl (nv_pickT rfl rfl rfl) rfl rfl ?_
            refine wo_n rfl (nv_move rfl rfl) rfl rfl ?_
            refine wo_n rfl (nv_move rfl rfl) rfl rfl ?_
            refine wo_n rfl (nv_ixS (n := 1) rfl rfl rfl (by assumption)) rfl rfl ?_
            refine wo_n rfl (nv_move rfl rfl) rfl rfl ?_
            refine wo_n rfl (nv_leqT rfl rfl rfl (by first | assumption | decide | omega)) rfl rfl ?_
            refine wo_n rfl (nv_pickT rfl rfl rfl) rfl rfl ?_
            refine wo_n rfl (nv_assign rfl rfl) rfl rfl ?_
            refine wo_nil ?_
            refine thenW_n ?_
            refine wc_exit ?_
            refine blockW_x ?_
            refine thenW_n ?_
            refine wc_seq ?_
            refine wc_seq ?_
            refine wc_region ?_
            refine wo_n rfl (nv_move rfl rfl) rfl rfl ?_
            refine wo_n rfl (nv_not rfl rfl) rfl rfl ?_
            refine wo_nil ?_
            refine thenW_n ?_
            refine wc_false rfl ?_
            refine wc_skip ?_
            refine thenW_n ?_
            refine wc_seq ?_
            refine wc_region ?_
            refine wo_n rfl (nv_move rfl rfl) rfl rfl ?_
            refine wo_n rfl (nv_assign rfl rfl) rfl rfl ?_
            refine wo_nil ?_
            refine thenW_n ?_
            refine wc_ret ?_
            refine endW_ret rfl rfl ?_
            exact ⟨rfl, by rw [hw]⟩
          · have hw : widM l = 0 := by rw [hl, hr]; simp [widM, hlm, secM, g1, g2]
            refine ev_of (fun m => hL.no _ _ m (by decide)) Tryd.func36 rfl rfl ?_
            refine wc_seq ?_
            refine wc_region ?_
            refine wo_n rfl (nv_assign rfl rfl) rfl rfl ?_
            refine wo_nil ?_
            refine thenW_n ?_
            refine wc_seq ?_
            refine wc_seq ?_
            refine wc_region ?_
            refine wo_n rfl (nv_move rfl rfl) rfl rfl ?_
            refine wo_n rfl (nv_seqlF (u := txt []) rfl rfl (show _ = some (vs (txt [])) by kernel_rfl) (by assumption)) rfl rfl ?_
            refine wo_nil ?_
            refine thenW_n ?_
            refine wc_false rfl ?_
            refine wc_skip ?_
            refine thenW_n ?_
            refine wc_seq ?_
            refine wc_region ?_
            refine wo_n rfl (nv_move rfl rfl) rfl rfl ?_
            refine wo_n rfl (nv_ixS (n := 0) rfl rfl rfl (by assumption)) rfl rfl ?_
            refine wo_call rfl rfl (by kernel_rfl) (hld) rfl rfl ?_
            refine wo_n rfl (nv_move rfl rfl) rfl rfl ?_
            refine wo_n rfl (nv_ex rfl rfl rfl) rfl rfl ?_
            refine wo_n rfl (nv_ex rfl rfl rfl) rfl rfl ?_
            refine wo_n rfl (nv_ex rfl rfl rfl) rfl rfl ?_
            refine wo_n rfl (nv_assign rfl rfl) rfl rfl ?_
            refine wo_n rfl (nv_assign rfl rfl) rfl rfl ?_
            refine wo_n rfl (nv_assign rfl rfl) rfl rfl ?_
            refine wo_nil ?_
            refine thenW_n ?_
            refine wc_seq ?_
            refine wc_seq ?_
            refine wc_region ?_
            refine wo_n rfl (nv_move rfl rfl) rfl rfl ?_
            refine wo_n rfl (nv_move rfl rfl) rfl rfl ?_
            first
              | refine wo_n rfl (nv_lenL rfl rfl rfl) rfl rfl ?_
              | refine wo_n rfl (nv_lenT rfl rfl rfl) rfl rfl ?_
            refine wo_n rfl (nv_gtrF rfl rfl rfl (by first | assumption | decide | omega)) rfl rfl ?_
            refine wo_nil ?_
            refine thenW_n ?_
            refine wc_false rfl ?_
            refine wc_skip ?_
            refine thenW_n ?_
            refine wc_seq ?_
            refine wc_region ?_
            refine wo_n rfl (nv_assign rfl rfl) rfl rfl ?_
            refine wo_nil ?_
            refine thenW_n ?_
            refine wc_seq ?_
            refine wc_seq ?_
            refine wc_region ?_
            refine wo_n rfl (nv_move rfl rfl) rfl rfl ?_
            refine wo_nil ?_
            refine thenW_n ?_
            refine wc_block ?_
            refine wc_seq ?_
            refine wc_block ?_
            refine wc_seq ?_
            refine wc_block ?_
            refine wc_seq ?_
            refine wc_block ?_
            refine wc_seq ?_
            refine wc_seq ?_
            refine wc_seq ?_
            refine wc_region ?_
            refine wo_n rfl (nv_eqlF rfl rfl rfl (by first | assumption | decide | omega)) rfl rfl ?_
            refine wo_n rfl (nv_assign rfl rfl) rfl rfl ?_
            refine wo_nil ?_
            refine thenW_n ?_
            refine wc_false rfl ?_
            refine wc_skip ?_
            refine thenW_n ?_
            refine wc_seq ?_
            refine wc_seq ?_
            refine wc_region ?_
            refine wo_n rfl (nv_eqlF rfl rfl rfl (by first | assumption | decide | omega)) rfl rfl ?_
            refine wo_n rfl (nv_assign rfl rfl) rfl rfl ?_
            refine wo_nil ?_
            refine thenW_n ?_
            refine wc_false rfl ?_
            refine wc_skip ?_
            refine thenW_n ?_
            refine wc_seq ?_
            refine wc_region ?_
            refine wo_n rfl (nv_eqlT rfl rfl rfl (by first | assumption | decide | omega)) rfl rfl ?_
            refine wo_n rfl (nv_assign rfl rfl) rfl rfl ?_
            refine wo_nil ?_
            refine thenW_n ?_
            refine wc_true rfl ?_
            refine wc_exit ?_
            refine thenW_x ?_
            refine blockW_y rfl ?_
            refine thenW_x ?_
            refine blockW_y rfl ?_
            refine thenW_x ?_
            refine blockW_x ?_
            refine thenW_n ?_
            refine wc_seq ?_
            refine wc_region ?_
            refine wo_n rfl (nv_move rfl rfl) rfl rfl ?_
            refine wo_n rfl (nv_move rfl rfl) rfl rfl ?_
            refine wo_n rfl (nv_move rfl rfl) rfl rfl ?_
            refine wo_n rfl (nv_ixS (n := 1) rfl rfl rfl (by assumption)) rfl rfl ?_
            refine wo_n rfl (nv_move rfl rfl) rfl rfl ?_
            refine wo_n rfl (nv_geqT rfl rfl rfl (by first | assumption | decide | omega)) rfl rfl ?_
            refine wo_n rfl (nv_pickT rfl rfl rfl) rfl rfl ?_
            refine wo_n rfl (nv_move rfl rfl) rfl rfl ?_
            refine wo_n rfl (nv_move rfl rfl) rfl rfl ?_
            refine wo_n rfl (nv_ixS (n := 1) rfl rfl rfl (by assumption)) rfl rfl ?_
            refine wo_n rfl (nv_move rfl rfl) rfl rfl ?_
            refine wo_n rfl (nv_leqF rfl rfl rfl (by first | assumption | decide | omega)) rfl rfl ?_
            refine wo_n rfl (nv_pickT rfl rfl rfl) rfl rfl ?_
            refine wo_n rfl (nv_assign rfl rfl) rfl rfl ?_
            refine wo_nil ?_
            refine thenW_n ?_
            refine wc_exit ?_
            refine blockW_x ?_
            refine thenW_n ?_
            refine wc_seq ?_
            refine wc_seq ?_
            refine wc_region ?_
            refine wo_n rfl (nv_move rfl rfl) rfl rfl ?_
            refine wo_n rfl (nv_not rfl rfl) rfl rfl ?_
            refine wo_nil ?_
            refine thenW_n ?_
            refine wc_true rfl ?_
            refine wc_seq ?_
            refine wc_region ?_
            refine wo_n rfl (nv_assign rfl rfl) rfl rfl ?_
            refine wo_nil ?_
            refine thenW_n ?_
            refine wc_ret ?_
            refine thenW_r ?_
            refine endW_ret rfl rfl ?_
            exact ⟨rfl, by rw [hw]; rfl⟩
        · have hw : widM l = 0 := by rw [hl, hr]; simp [widM, hlm, secM, g1]
          refine ev_of (fun m => hL.no _ _ m (by decide)) Tryd.func36 rfl rfl ?_
          refine wc_seq ?_
          refine wc_region ?_
          refine wo_n rfl (nv_assign rfl rfl) rfl rfl ?_
          refine wo_nil ?_
          refine thenW_n ?_
          refine wc_seq ?_
          refine wc_seq ?_
          refine wc_region ?_
          refine wo_n rfl (nv_move rfl rfl) rfl rfl ?_
          refine wo_n rfl (nv_seqlF (u := txt []) rfl rfl (show _ = some (vs (txt [])) by kernel_rfl) (by assumption)) rfl rfl ?_
          refine wo_nil ?_
          refine thenW_n ?_
          refine wc_false rfl ?_
          refine wc_skip ?_
          refine thenW_n ?_
          refine wc_seq ?_
          refine wc_region ?_
          refine wo_n rfl (nv_move rfl rfl) rfl rfl ?_
          refine wo_n rfl (nv_ixS (n := 0) rfl rfl rfl (by assumption)) rfl rfl ?_
          refine wo_call rfl rfl (by kernel_rfl) (hld) rfl rfl ?_
          refine wo_n rfl (nv_move rfl rfl) rfl rfl ?_
          refine wo_n rfl (nv_ex rfl rfl rfl) rfl rfl ?_
          refine wo_n rfl (nv_ex rfl rfl rfl) rfl rfl ?_
          refine wo_n rfl (nv_ex rfl rfl rfl) rfl rfl ?_
          refine wo_n rfl (nv_assign rfl rfl) rfl rfl ?_
          refine wo_n rfl (nv_assign rfl rfl) rfl rfl ?_
          refine wo_n rfl (nv_assign rfl rfl) rfl rfl ?_
          refine wo_nil ?_
          refine thenW_n ?_
          refine wc_seq ?_
          refine wc_seq ?_
          refine wc_region ?_
          refine wo_n rfl (nv_move rfl rfl) rfl rfl ?_
          refine wo_n rfl (nv_move rfl rfl) rfl rfl ?_
          first
            | refine wo_n rfl (nv_lenL rfl rfl rfl) rfl rfl ?_
            | refine wo_n rfl (nv_lenT rfl rfl rfl) rfl rfl ?_
          refine wo_n rfl (nv_gtrF rfl rfl rfl (by first | assumption | decide | omega)) rfl rfl ?_
          refine wo_nil ?_
          refine thenW_n ?_
          refine wc_false rfl ?_
          refine wc_skip ?_
          refine thenW_n ?_
          refine wc_seq ?_
          refine wc_region ?_
          refine wo_n rfl (nv_assign rfl rfl) rfl rfl ?_
          refine wo_nil ?_
          refine thenW_n ?_
          refine wc_seq ?_
          refine wc_seq ?_
          refine wc_region ?_
          refine wo_n rfl (nv_move rfl rfl) rfl rfl ?_
          refine wo_nil ?_
          refine thenW_n ?_
          refine wc_block ?_
          refine wc_seq ?_
          refine wc_block ?_
          refine wc_seq ?_
          refine wc_block ?_
          refine wc_seq ?_
          refine wc_block ?_
          refine wc_seq ?_
          refine wc_seq ?_
          refine wc_seq ?_
          refine wc_region ?_
          refine wo_n rfl (nv_eqlF rfl rfl rfl (by first | assumption | decide | omega)) rfl rfl ?_
          refine wo_n rfl (nv_assign rfl rfl) rfl rfl ?_
          refine wo_nil ?_
          refine thenW_n ?_
          refine wc_false rfl ?_
          refine wc_skip ?_
          refine thenW_n ?_
          refine wc_seq ?_
          refine wc_seq ?_
          refine wc_region ?_
          refine wo_n rfl (nv_eqlF rfl rfl rfl (by first | assumption | decide | omega)) rfl rfl ?_
          refine wo_n rfl (nv_assign rfl rfl) rfl rfl ?_
          refine wo_nil ?_
          refine thenW_n ?_
          refine wc_false rfl ?_
          refine wc_skip ?_
          refine thenW_n ?_
          refine wc_seq ?_
          refine wc_region ?_
          refine wo_n rfl (nv_eqlT rfl rfl rfl (by first | assumption | decide | omega)) rfl rfl ?_
          refine wo_n rfl (nv_assign rfl rfl) rfl rfl ?_
          refine wo_nil ?_
          refine thenW_n ?_
          refine wc_true rfl ?_
          refine wc_exit ?_
          refine thenW_x ?_
          refine blockW_y rfl ?_
          refine thenW_x ?_
          refine blockW_y rfl ?_
          refine thenW_x ?_
          refine blockW_x ?_
          refine thenW_n ?_
          refine wc_seq ?_
          refine wc_region ?_
          refine wo_n rfl (nv_move rfl rfl) rfl rfl ?_
          refine wo_n rfl (nv_move rfl rfl) rfl rfl ?_
          refine wo_n rfl (nv_move rfl rfl) rfl rfl ?_
          refine wo_n rfl (nv_ixS (n := 1) rfl rfl rfl (by assumption)) rfl rfl ?_
          refine wo_n rfl (nv_move rfl rfl) rfl rfl ?_
          refine wo_n rfl (nv_geqF rfl rfl rfl (by first | assumption | decide | omega)) rfl rfl ?_
          refine wo_n rfl (nv_pickT rfl rfl rfl) rfl rfl ?_
          refine wo_n rfl (nv_move rfl rfl) rfl rfl ?_
          refine wo_off rfl rfl rfl ?_
          refine wo_off rfl rfl rfl ?_
          refine wo_off rfl rfl rfl ?_
          refine wo_off rfl rfl rfl ?_
          refine wo_n rfl (nv_pickF rfl rfl rfl) rfl rfl ?_
          refine wo_n rfl (nv_assign rfl rfl) rfl rfl ?_
          refine wo_nil ?_
          refine thenW_n ?_
          refine wc_exit ?_
          refine blockW_x ?_
          refine thenW_n ?_
          refine wc_seq ?_
          refine wc_seq ?_
          refine wc_region ?_
          refine wo_n rfl (nv_move rfl rfl) rfl rfl ?_
          refine wo_n rfl (nv_not rfl rfl) rfl rfl ?_
          refine wo_nil ?_
          refine thenW_n ?_
          refine wc_true rfl ?_
          refine wc_seq ?_
          refine wc_region ?_
          refine wo_n rfl (nv_assign rfl rfl) rfl rfl ?_
          refine wo_nil ?_
          refine thenW_n ?_
          refine wc_ret ?_
          refine thenW_r ?_
          refine endW_ret rfl rfl ?_
          exact ⟨rfl, by rw [hw]; rfl⟩
      · have hw : widM l = 0 := by
          rw [hl]
          match r, hlen with
          | [], _ => simp [widM, hlm]
          | _ :: _, h => simp at h; omega
        refine ev_of (fun m => hL.no _ _ m (by decide)) Tryd.func36 rfl rfl ?_
        refine wc_seq ?_
        refine wc_region ?_
        refine wo_n rfl (nv_assign rfl rfl) rfl rfl ?_
        refine wo_nil ?_
        refine thenW_n ?_
        refine wc_seq ?_
        refine wc_seq ?_
        refine wc_region ?_
        refine wo_n rfl (nv_move rfl rfl) rfl rfl ?_
        refine wo_n rfl (nv_seqlF (u := txt []) rfl rfl (show _ = some (vs (txt [])) by kernel_rfl) (by assumption)) rfl rfl ?_
        refine wo_nil ?_
        refine thenW_n ?_
        refine wc_false rfl ?_
        refine wc_skip ?_
        refine thenW_n ?_
        refine wc_seq ?_
        refine wc_region ?_
        refine wo_n rfl (nv_move rfl rfl) rfl rfl ?_
        refine wo_n rfl (nv_ixS (n := 0) rfl rfl rfl (by assumption)) rfl rfl ?_
        refine wo_call rfl rfl (by kernel_rfl) (hld) rfl rfl ?_
        refine wo_n rfl (nv_move rfl rfl) rfl rfl ?_
        refine wo_n rfl (nv_ex rfl rfl rfl) rfl rfl ?_
        refine wo_n rfl (nv_ex rfl rfl rfl) rfl rfl ?_
        refine wo_n rfl (nv_ex rfl rfl rfl) rfl rfl ?_
        refine wo_n rfl (nv_assign rfl rfl) rfl rfl ?_
        refine wo_n rfl (nv_assign rfl rfl) rfl rfl ?_
        refine wo_n rfl (nv_assign rfl rfl) rfl rfl ?_
        refine wo_nil ?_
        refine thenW_n ?_
        refine wc_seq ?_
        refine wc_seq ?_
        refine wc_region ?_
        refine wo_n rfl (nv_move rfl rfl) rfl rfl ?_
        refine wo_n rfl (nv_move rfl rfl) rfl rfl ?_
        first
          | refine wo_n rfl (nv_lenL rfl rfl rfl) rfl rfl ?_
          | refine wo_n rfl (nv_lenT rfl rfl rfl) rfl rfl ?_
        refine wo_n rfl (nv_gtrT rfl rfl rfl (by first | assumption | decide | omega)) rfl rfl ?_
        refine wo_nil ?_
        refine thenW_n ?_
        refine wc_true rfl ?_
        refine wc_seq ?_
        refine wc_region ?_
        refine wo_n rfl (nv_assign rfl rfl) rfl rfl ?_
        refine wo_nil ?_
        refine thenW_n ?_
        refine wc_ret ?_
        refine thenW_r ?_
        refine endW_ret rfl rfl ?_
        exact ⟨rfl, by rw [hw]; rfl⟩
    · by_cases hs : 3 ≤ l.length
      · skip
        obtain ⟨c, d, r', hr⟩ : ∃ c d r', r = c :: d :: r' := by
          match r, hlen with
          | c :: d :: r', _ => exact ⟨_, _, r', rfl⟩
          | [], h => simp at h; omega
          | [_], h => simp at h; omega
        have h1 : l[1]? = some c := by rw [hl, hr]; rfl
        have h2 : l[2]? = some d := by rw [hl, hr]; rfl
        have t_d := tail_spec (m := m) hL d
        cases ht_d : tailM d with
        | false =>
          rw [ht_d] at t_d
          have hw : widM l = 0 := by rw [hl, hr]; simp [widM, hlm, ht_d]
          refine ev_of (fun m => hL.no _ _ m (by decide)) Tryd.func36 rfl rfl ?_
          refine wc_seq ?_
          refine wc_region ?_
          refine wo_n rfl (nv_assign rfl rfl) rfl rfl ?_
          refine wo_nil ?_
          refine thenW_n ?_
          refine wc_seq ?_
          refine wc_seq ?_
          refine wc_region ?_
          refine wo_n rfl (nv_move rfl rfl) rfl rfl ?_
          refine wo_n rfl (nv_seqlF (u := txt []) rfl rfl (show _ = some (vs (txt [])) by kernel_rfl) (by assumption)) rfl rfl ?_
          refine wo_nil ?_
          refine thenW_n ?_
          refine wc_false rfl ?_
          refine wc_skip ?_
          refine thenW_n ?_
          refine wc_seq ?_
          refine wc_region ?_
          refine wo_n rfl (nv_move rfl rfl) rfl rfl ?_
          refine wo_n rfl (nv_ixS (n := 0) rfl rfl rfl (by assumption)) rfl rfl ?_
          refine wo_call rfl rfl (by kernel_rfl) (hld) rfl rfl ?_
          refine wo_n rfl (nv_move rfl rfl) rfl rfl ?_
          refine wo_n rfl (nv_ex rfl rfl rfl) rfl rfl ?_
          refine wo_n rfl (nv_ex rfl rfl rfl) rfl rfl ?_
          refine wo_n rfl (nv_ex rfl rfl rfl) rfl rfl ?_
          refine wo_n rfl (nv_assign rfl rfl) rfl rfl ?_
          refine wo_n rfl (nv_assign rfl rfl) rfl rfl ?_
          refine wo_n rfl (nv_assign rfl rfl) rfl rfl ?_
          refine wo_nil ?_
          refine thenW_n ?_
          refine wc_seq ?_
          refine wc_seq ?_
          refine wc_region ?_
          refine wo_n rfl (nv_move rfl rfl) rfl rfl ?_
          refine wo_n rfl (nv_move rfl rfl) rfl rfl ?_
          first
            | refine wo_n rfl (nv_lenL rfl rfl rfl) rfl rfl ?_
            | refine wo_n rfl (nv_lenT rfl rfl rfl) rfl rfl ?_
          refine wo_n rfl (nv_gtrF rfl rfl rfl (by first | assumption | decide | omega)) rfl rfl ?_
          refine wo_nil ?_
          refine thenW_n ?_
          refine wc_false rfl ?_
          refine wc_skip ?_
          refine thenW_n ?_
          refine wc_seq ?_
          refine wc_region ?_
          refine wo_n rfl (nv_assign rfl rfl) rfl rfl ?_
          refine wo_nil ?_
          refine thenW_n ?_
          refine wc_seq ?_
          refine wc_seq ?_
          refine wc_region ?_
          refine wo_n rfl (nv_move rfl rfl) rfl rfl ?_
          refine wo_nil ?_
          refine thenW_n ?_
          refine wc_block ?_
          refine wc_seq ?_
          refine wc_block ?_
          refine wc_seq ?_
          refine wc_block ?_
          refine wc_seq ?_
          refine wc_block ?_
          refine wc_seq ?_
          refine wc_seq ?_
          refine wc_seq ?_
          refine wc_region ?_
          refine wo_n rfl (nv_eqlF rfl rfl rfl (by first | assumption | decide | omega)) rfl rfl ?_
          refine wo_n rfl (nv_assign rfl rfl) rfl rfl ?_
          refine wo_nil ?_
          refine thenW_n ?_
          refine wc_false rfl ?_
          refine wc_skip ?_
          refine thenW_n ?_
          refine wc_seq ?_
          refine wc_seq ?_
          refine wc_region ?_
          refine wo_n rfl (nv_eqlT rfl rfl rfl (by first | assumption | decide | omega)) rfl rfl ?_
          refine wo_n rfl (nv_assign rfl rfl) rfl rfl ?_
          refine wo_nil ?_
          refine thenW_n ?_
          refine wc_true rfl ?_
          refine wc_exit ?_
          refine thenW_x ?_
          refine thenW_x ?_
          refine blockW_y rfl ?_
          refine thenW_x ?_
          refine blockW_x ?_
          refine thenW_n ?_
          refine wc_region ?_
          refine wo_n rfl (nv_move rfl rfl) rfl rfl ?_
          refine wo_n rfl (nv_move rfl rfl) rfl rfl ?_
          refine wo_n rfl (nv_move rfl rfl) rfl rfl ?_
          refine wo_n rfl (nv_ixS (n := 2) rfl rfl rfl (by assumption)) rfl rfl ?_
          refine wo_call rfl rfl (by kernel_rfl) (t_d) rfl rfl ?_
          refine wo_n rfl (nv_pickT rfl rfl rfl) rfl rfl ?_
          refine wo_n rfl (nv_assign rfl rfl) rfl rfl ?_
          refine wo_nil ?_
          refine blockW_n ?_
          refine thenW_n ?_
          refine wc_seq ?_
          refine wc_region ?_
          refine wo_n rfl (nv_move rfl rfl) rfl rfl ?_
          refine wo_n rfl (nv_move rfl rfl) rfl rfl ?_
          refine wo_off rfl rfl rfl ?_
          refine wo_off rfl rfl rfl ?_
          refine wo_off rfl rfl rfl ?_
          refine wo_off rfl rfl rfl ?_
          refine wo_n rfl (nv_pickF rfl rfl rfl) rfl rfl ?_
          refine wo_n rfl (nv_move rfl rfl) rfl rfl ?_
          refine wo_off rfl rfl rfl ?_
          refine wo_off rfl rfl rfl ?_
          refine wo_off rfl rfl rfl ?_
          refine wo_off rfl rfl rfl ?_
          refine wo_n rfl (nv_pickF rfl rfl rfl) rfl rfl ?_
          refine wo_n rfl (nv_assign rfl rfl) rfl rfl ?_
          refine wo_nil ?_
          refine thenW_n ?_
          refine wc_exit ?_
          refine blockW_x ?_
          refine thenW_n ?_
          refine wc_seq ?_
          refine wc_seq ?_
          refine wc_region ?_
          refine wo_n rfl (nv_move rfl rfl) rfl rfl ?_
          refine wo_n rfl (nv_not rfl rfl) rfl rfl ?_
          refine wo_nil ?_
          refine thenW_n ?_
          refine wc_true rfl ?_
          refine wc_seq ?_
          refine wc_region ?_
          refine wo_n rfl (nv_assign rfl rfl) rfl rfl ?_
          refine wo_nil ?_
          refine thenW_n ?_
          refine wc_ret ?_
          refine thenW_r ?_
          refine endW_ret rfl rfl ?_
          exact ⟨rfl, by rw [hw]; rfl⟩
        | true =>
          rw [ht_d] at t_d
          by_cases g1 : lo ≤ c.toNat
          · by_cases g2 : c.toNat ≤ hi
            · have hw : widM l = 3 := by rw [hl, hr]; simp [widM, hlm, secM, g1, g2, ht_d]
              refine ev_of (fun m => hL.no _ _ m (by decide)) Tryd.func36 rfl rfl ?_
              refine wc_seq ?_
              refine wc_region ?_
              refine wo_n rfl (nv_assign rfl rfl) rfl rfl ?_
              refine wo_nil ?_
              refine thenW_n ?_
              refine wc_seq ?_
              refine wc_seq ?_
              refine wc_region ?_
              refine wo_n rfl (nv_move rfl rfl) rfl rfl ?_
              refine wo_n rfl (nv_seqlF (u := txt []) rfl rfl (show _ = some (vs (txt [])) by kernel_rfl) (by assumption)) rfl rfl ?_
              refine wo_nil ?_
              refine thenW_n ?_
              refine wc_false rfl ?_
              refine wc_skip ?_
              refine thenW_n ?_
              refine wc_seq ?_
              refine wc_region ?_
              refine wo_n rfl (nv_move rfl rfl) rfl rfl ?_
              refine wo_n rfl (nv_ixS (n := 0) rfl rfl rfl (by assumption)) rfl rfl ?_
              refine wo_call rfl rfl (by kernel_rfl) (hld) rfl rfl ?_
              refine wo_n rfl (nv_move rfl rfl) rfl rfl ?_
              refine wo_n rfl (nv_ex rfl rfl rfl) rfl rfl ?_
              refine wo_n rfl (nv_ex rfl rfl rfl) rfl rfl ?_
              refine wo_n rfl (nv_ex rfl rfl rfl) rfl rfl ?_
              refine wo_n rfl (nv_assign rfl rfl) rfl rfl ?_
              refine wo_n rfl (nv_assign rfl rfl) rfl rfl ?_
              refine wo_n rfl (nv_assign rfl rfl) rfl rfl ?_
              refine wo_nil ?_
              refine thenW_n ?_
              refine wc_seq ?_
              refine wc_seq ?_
              refine wc_region ?_
              refine wo_n rfl (nv_move rfl rfl) rfl rfl ?_
              refine wo_n rfl (nv_move rfl rfl) rfl rfl ?_
              first
                | refine wo_n rfl (nv_lenL rfl rfl rfl) rfl rfl ?_
                | refine wo_n rfl (nv_lenT rfl rfl rfl) rfl rfl ?_
              refine wo_n rfl (nv_gtrF rfl rfl rfl (by first | assumption | decide | omega)) rfl rfl ?_
              refine wo_nil ?_
              refine thenW_n ?_
              refine wc_false rfl ?_
              refine wc_skip ?_
              refine thenW_n ?_
              refine wc_seq ?_
              refine wc_region ?_
              refine wo_n rfl (nv_assign rfl rfl) rfl rfl ?_
              refine wo_nil ?_
              refine thenW_n ?_
              refine wc_seq ?_
              refine wc_seq ?_
              refine wc_region ?_
              refine wo_n rfl (nv_move rfl rfl) rfl rfl ?_
              refine wo_nil ?_
              refine thenW_n ?_
              refine wc_block ?_
              refine wc_seq ?_
              refine wc_block ?_
              refine wc_seq ?_
              refine wc_block ?_
              refine wc_seq ?_
              refine wc_block ?_
              refine wc_seq ?_
              refine wc_seq ?_
              refine wc_seq ?_
              refine wc_region ?_
              refine wo_n rfl (nv_eqlF rfl rfl rfl (by first | assumption | decide | omega)) rfl rfl ?_
              refine wo_n rfl (nv_assign rfl rfl) rfl rfl ?_
              refine wo_nil ?_
              refine thenW_n ?_
              refine wc_false rfl ?_
              refine wc_skip ?_
              refine thenW_n ?_
              refine wc_seq ?_
              refine wc_seq ?_
              refine wc_region ?_
              refine wo_n rfl (nv_eqlT rfl rfl rfl (by first | assumption | decide | omega)) rfl rfl ?_
              refine wo_n rfl (nv_assign rfl rfl) rfl rfl ?_
              refine wo_nil ?_
              refine thenW_n ?_
              refine wc_true rfl ?_
              refine wc_exit ?_
              refine thenW_x ?_
              refine thenW_x ?_
              refine blockW_y rfl ?_
              refine thenW_x ?_
              refine blockW_x ?_
              refine thenW_n ?_
              refine wc_region ?_
              refine wo_n rfl (nv_move rfl rfl) rfl rfl ?_
              refine wo_n rfl (nv_move rfl rfl) rfl rfl ?_
              refine wo_n rfl (nv_move rfl rfl) rfl rfl ?_
              refine wo_n rfl (nv_ixS (n := 2) rfl rfl rfl (by assumption)) rfl rfl ?_
              refine wo_call rfl rfl (by kernel_rfl) (t_d) rfl rfl ?_
              refine wo_n rfl (nv_pickT rfl rfl rfl) rfl rfl ?_
              refine wo_n rfl (nv_assign rfl rfl) rfl rfl ?_
              refine wo_nil ?_
              refine blockW_n ?_
              refine thenW_n ?_
              refine wc_seq ?_
              refine wc_region ?_
              refine wo_n rfl (nv_move rfl rfl) rfl rfl ?_
              refine wo_n rfl (nv_move rfl rfl) rfl rfl ?_
              refine wo_n rfl (nv_move rfl rfl) rfl rfl ?_
              refine wo_n rfl (nv_ixS (n := 1) rfl rfl rfl (by assumption)) rfl rfl ?_
              refine wo_n rfl (nv_move rfl rfl) rfl rfl ?_
              refine wo_n rfl (nv_geqT rfl rfl rfl (by first | assumption | decide | omega)) rfl rfl ?_
              refine wo_n rfl (nv_pickT rfl rfl rfl) rfl rfl ?_
              refine wo_n rfl (nv_move rfl rfl) rfl rfl ?_
              refine wo_n rfl (nv_move rfl rfl) rfl rfl ?_
              refine wo_n rfl (nv_ixS (n := 1) rfl rfl rfl (by assumption)) rfl rfl ?_
              refine wo_n rfl (nv_move rfl rfl) rfl rfl ?_
              refine wo_n rfl (nv_leqT rfl rfl rfl (by first | assumption | decide | omega)) rfl rfl ?_
              refine wo_n rfl (nv_pickT rfl rfl rfl) rfl rfl ?_
              refine wo_n rfl (nv_assign rfl rfl) rfl rfl ?_
              refine wo_nil ?_
              refine thenW_n ?_
              refine wc_exit ?_
              refine blockW_x ?_
              refine thenW_n ?_
              refine wc_seq ?_
              refine wc_seq ?_
              refine wc_region ?_
              refine wo_n rfl (nv_move rfl rfl) rfl rfl ?_
              refine wo_n rfl (nv_not rfl rfl) rfl rfl ?_
              refine wo_nil ?_
              refine thenW_n ?_
              refine wc_false rfl ?_
              refine wc_skip ?_
              refine thenW_n ?_
              refine wc_seq ?_
              refine wc_region ?_
              refine wo_n rfl (nv_move rfl rfl) rfl rfl ?_
              refine wo_n rfl (nv_assign rfl rfl) rfl rfl ?_
              refine wo_nil ?_
              refine thenW_n ?_
              refine wc_ret ?_
              refine endW_ret rfl rfl ?_
              exact ⟨rfl, by rw [hw]⟩
            · have hw : widM l = 0 := by rw [hl, hr]; simp [widM, hlm, secM, g1, g2, ht_d]
              refine ev_of (fun m => hL.no _ _ m (by decide)) Tryd.func36 rfl rfl ?_
              refine wc_seq ?_
              refine wc_region ?_
              refine wo_n rfl (nv_assign rfl rfl) rfl rfl ?_
              refine wo_nil ?_
              refine thenW_n ?_
              refine wc_seq ?_
              refine wc_seq ?_
              refine wc_region ?_
              refine wo_n rfl (nv_move rfl rfl) rfl rfl ?_
              refine wo_n rfl (nv_seqlF (u := txt []) rfl rfl (show _ = some (vs (txt [])) by kernel_rfl) (by assumption)) rfl rfl ?_
              refine wo_nil ?_
              refine thenW_n ?_
              refine wc_false rfl ?_
              refine wc_skip ?_
              refine thenW_n ?_
              refine wc_seq ?_
              refine wc_region ?_
              refine wo_n rfl (nv_move rfl rfl) rfl rfl ?_
              refine wo_n rfl (nv_ixS (n := 0) rfl rfl rfl (by assumption)) rfl rfl ?_
              refine wo_call rfl rfl (by kernel_rfl) (hld) rfl rfl ?_
              refine wo_n rfl (nv_move rfl rfl) rfl rfl ?_
              refine wo_n rfl (nv_ex rfl rfl rfl) rfl rfl ?_
              refine wo_n rfl (nv_ex rfl rfl rfl) rfl rfl ?_
              refine wo_n rfl (nv_ex rfl rfl rfl) rfl rfl ?_
              refine wo_n rfl (nv_assign rfl rfl) rfl rfl ?_
              refine wo_n rfl (nv_assign rfl rfl) rfl rfl ?_
              refine wo_n rfl (nv_assign rfl rfl) rfl rfl ?_
              refine wo_nil ?_
              refine thenW_n ?_
              refine wc_seq ?_
              refine wc_seq ?_
              refine wc_region ?_
              refine wo_n rfl (nv_move rfl rfl) rfl rfl ?_
              refine wo_n rfl (nv_move rfl rfl) rfl rfl ?_
              first
                | refine wo_n rfl (nv_lenL rfl rfl rfl) rfl rfl ?_
                | refine wo_n rfl (nv_lenT rfl rfl rfl) rfl rfl ?_
              refine wo_n rfl (nv_gtrF rfl rfl rfl (by first | assumption | decide | omega)) rfl rfl ?_
              refine wo_nil ?_
              refine thenW_n ?_
              refine wc_false rfl ?_
              refine wc_skip ?_
              refine thenW_n ?_
              refine wc_seq ?_
              refine wc_region ?_
              refine wo_n rfl (nv_assign rfl rfl) rfl rfl ?_
              refine wo_nil ?_
              refine thenW_n ?_
              refine wc_seq ?_
              refine wc_seq ?_
              refine wc_region ?_
              refine wo_n rfl (nv_move rfl rfl) rfl rfl ?_
              refine wo_nil ?_
              refine thenW_n ?_
              refine wc_block ?_
              refine wc_seq ?_
              refine wc_block ?_
              refine wc_seq ?_
              refine wc_block ?_
              refine wc_seq ?_
              refine wc_block ?_
              refine wc_seq ?_
              refine wc_seq ?_
              refine wc_seq ?_
              refine wc_region ?_
              refine wo_n rfl (nv_eqlF rfl rfl rfl (by first | assumption | decide | omega)) rfl rfl ?_
              refine wo_n rfl (nv_assign rfl rfl) rfl rfl ?_
              refine wo_nil ?_
              refine thenW_n ?_
              refine wc_false rfl ?_
              refine wc_skip ?_
              refine thenW_n ?_
              refine wc_seq ?_
              refine wc_seq ?_
              refine wc_region ?_
              refine wo_n rfl (nv_eqlT rfl rfl rfl (by first | assumption | decide | omega)) rfl rfl ?_
              refine wo_n rfl (nv_assign rfl rfl) rfl rfl ?_
              refine wo_nil ?_
              refine thenW_n ?_
              refine wc_true rfl ?_
              refine wc_exit ?_
              refine thenW_x ?_
              refine thenW_x ?_
              refine blockW_y rfl ?_
              refine thenW_x ?_
              refine blockW_x ?_
              refine thenW_n ?_
              refine wc_region ?_
              refine wo_n rfl (nv_move rfl rfl) rfl rfl ?_
              refine wo_n rfl (nv_move rfl rfl) rfl rfl ?_
              refine wo_n rfl (nv_move rfl rfl) rfl rfl ?_
              refine wo_n rfl (nv_ixS (n := 2) rfl rfl rfl (by assumption)) rfl rfl ?_
              refine wo_call rfl rfl (by kernel_rfl) (t_d) rfl rfl ?_
              refine wo_n rfl (nv_pickT rfl rfl rfl) rfl rfl ?_
              refine wo_n rfl (nv_assign rfl rfl) rfl rfl ?_
              refine wo_nil ?_
              refine blockW_n ?_
              refine thenW_n ?_
              refine wc_seq ?_
              refine wc_region ?_
              refine wo_n rfl (nv_move rfl rfl) rfl rfl ?_
              refine wo_n rfl (nv_move rfl rfl) rfl rfl ?_
              refine wo_n rfl (nv_move rfl rfl) rfl rfl ?_
              refine wo_n rfl (nv_ixS (n := 1) rfl rfl rfl (by assumption)) rfl rfl ?_
              refine wo_n rfl (nv_move rfl rfl) rfl rfl ?_
              refine wo_n rfl (nv_geqT rfl rfl rfl (by first | assumption | decide | omega)) rfl rfl ?_
              refine wo_n rfl (nv_pickT rfl rfl rfl) rfl rfl ?_
              refine wo_n rfl (nv_move rfl rfl) rfl rfl ?_
              refine wo_n rfl (nv_move rfl rfl) rfl rfl ?_
              refine wo_n rfl (nv_ixS (n := 1) rfl rfl rfl (by assumption)) rfl rfl ?_
              refine wo_n rfl (nv_move rfl rfl) rfl rfl ?_
              refine wo_n rfl (nv_leqF rfl rfl rfl (by first | assumption | decide | omega)) rfl rfl ?_
              refine wo_n rfl (nv_pickT rfl rfl rfl) rfl rfl ?_
              refine wo_n rfl (nv_assign rfl rfl) rfl rfl ?_
              refine wo_nil ?_
              refine thenW_n ?_
              refine wc_exit ?_
              refine blockW_x ?_
              refine thenW_n ?_
              refine wc_seq ?_
              refine wc_seq ?_
              refine wc_region ?_
              refine wo_n rfl (nv_move rfl rfl) rfl rfl ?_
              refine wo_n rfl (nv_not rfl rfl) rfl rfl ?_
              refine wo_nil ?_
              refine thenW_n ?_
              refine wc_true rfl ?_
              refine wc_seq ?_
              refine wc_region ?_
              refine wo_n rfl (nv_assign rfl rfl) rfl rfl ?_
              refine wo_nil ?_
              refine thenW_n ?_
              refine wc_ret ?_
              refine thenW_r ?_
              refine endW_ret rfl rfl ?_
              exact ⟨rfl, by rw [hw]; rfl⟩
          · have hw : widM l = 0 := by rw [hl, hr]; simp [widM, hlm, secM, g1, ht_d]
            refine ev_of (fun m => hL.no _ _ m (by decide)) Tryd.func36 rfl rfl ?_
            refine wc_seq ?_
            refine wc_region ?_
            refine wo_n rfl (nv_assign rfl rfl) rfl rfl ?_
            refine wo_nil ?_
            refine thenW_n ?_
            refine wc_seq ?_
            refine wc_seq ?_
            refine wc_region ?_
            refine wo_n rfl (nv_move rfl rfl) rfl rfl ?_
            refine wo_n rfl (nv_seqlF (u := txt []) rfl rfl (show _ = some (vs (txt [])) by kernel_rfl) (by assumption)) rfl rfl ?_
            refine wo_nil ?_
            refine thenW_n ?_
            refine wc_false rfl ?_
            refine wc_skip ?_
            refine thenW_n ?_
            refine wc_seq ?_
            refine wc_region ?_
            refine wo_n rfl (nv_move rfl rfl) rfl rfl ?_
            refine wo_n rfl (nv_ixS (n := 0) rfl rfl rfl (by assumption)) rfl rfl ?_
            refine wo_call rfl rfl (by kernel_rfl) (hld) rfl rfl ?_
            refine wo_n rfl (nv_move rfl rfl) rfl rfl ?_
            refine wo_n rfl (nv_ex rfl rfl rfl) rfl rfl ?_
            refine wo_n rfl (nv_ex rfl rfl rfl) rfl rfl ?_
            refine wo_n rfl (nv_ex rfl rfl rfl) rfl rfl ?_
            refine wo_n rfl (nv_assign rfl rfl) rfl rfl ?_
            refine wo_n rfl (nv_assign rfl rfl) rfl rfl ?_
            refine wo_n rfl (nv_assign rfl rfl) rfl rfl ?_
            refine wo_nil ?_
            refine thenW_n ?_
            refine wc_seq ?_
            refine wc_seq ?_
            refine wc_region ?_
            refine wo_n rfl (nv_move rfl rfl) rfl rfl ?_
            refine wo_n rfl (nv_move rfl rfl) rfl rfl ?_
            first
              | refine wo_n rfl (nv_lenL rfl rfl rfl) rfl rfl ?_
              | refine wo_n rfl (nv_lenT rfl rfl rfl) rfl rfl ?_
            refine wo_n rfl (nv_gtrF rfl rfl rfl (by first | assumption | decide | omega)) rfl rfl ?_
            refine wo_nil ?_
            refine thenW_n ?_
            refine wc_false rfl ?_
            refine wc_skip ?_
            refine thenW_n ?_
            refine wc_seq ?_
            refine wc_region ?_
            refine wo_n rfl (nv_assign rfl rfl) rfl rfl ?_
            refine wo_nil ?_
            refine thenW_n ?_
            refine wc_seq ?_
            refine wc_seq ?_
            refine wc_region ?_
            refine wo_n rfl (nv_move rfl rfl) rfl rfl ?_
            refine wo_nil ?_
            refine thenW_n ?_
            refine wc_block ?_
            refine wc_seq ?_
            refine wc_block ?_
            refine wc_seq ?_
            refine wc_block ?_
            refine wc_seq ?_
            refine wc_block ?_
            refine wc_seq ?_
            refine wc_seq ?_
            refine wc_seq ?_
            refine wc_region ?_
            refine wo_n rfl (nv_eqlF rfl rfl rfl (by first | assumption | decide | omega)) rfl rfl ?_
            refine wo_n rfl (nv_assign rfl rfl) rfl rfl ?_
            refine wo_nil ?_
            refine thenW_n ?_
            refine wc_false rfl ?_
            refine wc_skip ?_
            refine thenW_n ?_
            refine wc_seq ?_
            refine wc_seq ?_
            refine wc_region ?_
            refine wo_n rfl (nv_eqlT rfl rfl rfl (by first | assumption | decide | omega)) rfl rfl ?_
            refine wo_n rfl (nv_assign rfl rfl) rfl rfl ?_
            refine wo_nil ?_
            refine thenW_n ?_
            refine wc_true rfl ?_
            refine wc_exit ?_
            refine thenW_x ?_
            refine thenW_x ?_
            refine blockW_y rfl ?_
            refine thenW_x ?_
            refine blockW_x ?_
            refine thenW_n ?_
            refine wc_region ?_
            refine wo_n rfl (nv_move rfl rfl) rfl rfl ?_
            refine wo_n rfl (nv_move rfl rfl) rfl rfl ?_
            refine wo_n rfl (nv_move rfl rfl) rfl rfl ?_
            refine wo_n rfl (nv_ixS (n := 2) rfl rfl rfl (by assumption)) rfl rfl ?_
            refine wo_call rfl rfl (by kernel_rfl) (t_d) rfl rfl ?_
            refine wo_n rfl (nv_pickT rfl rfl rfl) rfl rfl ?_
            refine wo_n rfl (nv_assign rfl rfl) rfl rfl ?_
            refine wo_nil ?_
            refine blockW_n ?_
            refine thenW_n ?_
            refine wc_seq ?_
            refine wc_region ?_
            refine wo_n rfl (nv_move rfl rfl) rfl rfl ?_
            refine wo_n rfl (nv_move rfl rfl) rfl rfl ?_
            refine wo_n rfl (nv_move rfl rfl) rfl rfl ?_
            refine wo_n rfl (nv_ixS (n := 1) rfl rfl rfl (by assumption)) rfl rfl ?_
            refine wo_n rfl (nv_move rfl rfl) rfl rfl ?_
            refine wo_n rfl (nv_geqF rfl rfl rfl (by first | assumption | decide | omega)) rfl rfl ?_
            refine wo_n rfl (nv_pickT rfl rfl rfl) rfl rfl ?_
            refine wo_n rfl (nv_move rfl rfl) rfl rfl ?_
            refine wo_off rfl rfl rfl ?_
            refine wo_off rfl rfl rfl ?_
            refine wo_off rfl rfl rfl ?_
            refine wo_off rfl rfl rfl ?_
            refine wo_n rfl (nv_pickF rfl rfl rfl) rfl rfl ?_
            refine wo_n rfl (nv_assign rfl rfl) rfl rfl ?_
            refine wo_nil ?_
            refine thenW_n ?_
            refine wc_exit ?_
            refine blockW_x ?_
            refine thenW_n ?_
            refine wc_seq ?_
            refine wc_seq ?_
            refine wc_region ?_
            refine wo_n rfl (nv_move rfl rfl) rfl rfl ?_
            refine wo_n rfl (nv_not rfl rfl) rfl rfl ?_
            refine wo_nil ?_
            refine thenW_n ?_
            refine wc_true rfl ?_
            refine wc_seq ?_
            refine wc_region ?_
            refine wo_n rfl (nv_assign rfl rfl) rfl rfl ?_
            refine wo_nil ?_
            refine thenW_n ?_
            refine wc_ret ?_
            refine thenW_r ?_
            refine endW_ret rfl rfl ?_
            exact ⟨rfl, by rw [hw]; rfl⟩
      · have hw : widM l = 0 := by
          rw [hl]
          match r, hlen with
          | [], _ => simp [widM, hlm]
          | [_], _ => simp [widM, hlm]
          | _ :: _ :: _, h => simp at h; omega
        refine ev_of (fun m => hL.no _ _ m (by decide)) Tryd.func36 rfl rfl ?_
        refine wc_seq ?_
        refine wc_region ?_
        refine wo_n rfl (nv_assign rfl rfl) rfl rfl ?_
        refine wo_nil ?_
        refine thenW_n ?_
        refine wc_seq ?_
        refine wc_seq ?_
        refine wc_region ?_
        refine wo_n rfl (nv_move rfl rfl) rfl rfl ?_
        refine wo_n rfl (nv_seqlF (u := txt []) rfl rfl (show _ = some (vs (txt [])) by kernel_rfl) (by assumption)) rfl rfl ?_
        refine wo_nil ?_
        refine thenW_n ?_
        refine wc_false rfl ?_
        refine wc_skip ?_
        refine thenW_n ?_
        refine wc_seq ?_
        refine wc_region ?_
        refine wo_n rfl (nv_move rfl rfl) rfl rfl ?_
        refine wo_n rfl (nv_ixS (n := 0) rfl rfl rfl (by assumption)) rfl rfl ?_
        refine wo_call rfl rfl (by kernel_rfl) (hld) rfl rfl ?_
        refine wo_n rfl (nv_move rfl rfl) rfl rfl ?_
        refine wo_n rfl (nv_ex rfl rfl rfl) rfl rfl ?_
        refine wo_n rfl (nv_ex rfl rfl rfl) rfl rfl ?_
        refine wo_n rfl (nv_ex rfl rfl rfl) rfl rfl ?_
        refine wo_n rfl (nv_assign rfl rfl) rfl rfl ?_
        refine wo_n rfl (nv_assign rfl rfl) rfl rfl ?_
        refine wo_n rfl (nv_assign rfl rfl) rfl rfl ?_
        refine wo_nil ?_
        refine thenW_n ?_
        refine wc_seq ?_
        refine wc_seq ?_
        refine wc_region ?_
        refine wo_n rfl (nv_move rfl rfl) rfl rfl ?_
        refine wo_n rfl (nv_move rfl rfl) rfl rfl ?_
        first
          | refine wo_n rfl (nv_lenL rfl rfl rfl) rfl rfl ?_
          | refine wo_n rfl (nv_lenT rfl rfl rfl) rfl rfl ?_
        refine wo_n rfl (nv_gtrT rfl rfl rfl (by first | assumption | decide | omega)) rfl rfl ?_
        refine wo_nil ?_
        refine thenW_n ?_
        refine wc_true rfl ?_
        refine wc_seq ?_
        refine wc_region ?_
        refine wo_n rfl (nv_assign rfl rfl) rfl rfl ?_
        refine wo_nil ?_
        refine thenW_n ?_
        refine wc_ret ?_
        refine thenW_r ?_
        refine endW_ret rfl rfl ?_
        exact ⟨rfl, by rw [hw]; rfl⟩
    · by_cases hs : 4 ≤ l.length
      · skip
        obtain ⟨c, d, e, r', hr⟩ : ∃ c d e r', r = c :: d :: e :: r' := by
          match r, hlen with
          | c :: d :: e :: r', _ => exact ⟨_, _, _, r', rfl⟩
          | [], h => simp at h; omega
          | [_], h => simp at h; omega
          | [_, _], h => simp at h; omega
        have h1 : l[1]? = some c := by rw [hl, hr]; rfl
        have h2 : l[2]? = some d := by rw [hl, hr]; rfl
        have h3 : l[3]? = some e := by rw [hl, hr]; rfl
        have t_e := tail_spec (m := m) hL e
        cases ht_e : tailM e with
        | false =>
          rw [ht_e] at t_e
          have hw : widM l = 0 := by rw [hl, hr]; simp [widM, hlm, ht_e]
          refine ev_of (fun m => hL.no _ _ m (by decide)) Tryd.func36 rfl rfl ?_
          refine wc_seq ?_
          refine wc_region ?_
          refine wo_n rfl (nv_assign rfl rfl) rfl rfl ?_
          refine wo_nil ?_
          refine thenW_n ?_
          refine wc_seq ?_
          refine wc_seq ?_
          refine wc_region ?_
          refine wo_n rfl (nv_move rfl rfl) rfl rfl ?_
          refine wo_n rfl (nv_seqlF (u := txt []) rfl rfl (show _ = some (vs (txt [])) by kernel_rfl) (by assumption)) rfl rfl ?_
          refine wo_nil ?_
          refine thenW_n ?_
          refine wc_false rfl ?_
          refine wc_skip ?_
          refine thenW_n ?_
          refine wc_seq ?_
          refine wc_region ?_
          refine wo_n rfl (nv_move rfl rfl) rfl rfl ?_
          refine wo_n rfl (nv_ixS (n := 0) rfl rfl rfl (by assumption)) rfl rfl ?_
          refine wo_call rfl rfl (by kernel_rfl) (hld) rfl rfl ?_
          refine wo_n rfl (nv_move rfl rfl) rfl rfl ?_
          refine wo_n rfl (nv_ex rfl rfl rfl) rfl rfl ?_
          refine wo_n rfl (nv_ex rfl rfl rfl) rfl rfl ?_
          refine wo_n rfl (nv_ex rfl rfl rfl) rfl rfl ?_
          refine wo_n rfl (nv_assign rfl rfl) rfl rfl ?_
          refine wo_n rfl (nv_assign rfl rfl) rfl rfl ?_
          refine wo_n rfl (nv_assign rfl rfl) rfl rfl ?_
          refine wo_nil ?_
          refine thenW_n ?_
          refine wc_seq ?_
          refine wc_seq ?_
          refine wc_region ?_
          refine wo_n rfl (nv_move rfl rfl) rfl rfl ?_
          refine wo_n rfl (nv_move rfl rfl) rfl rfl ?_
          first
            | refine wo_n rfl (nv_lenL rfl rfl rfl) rfl rfl ?_
            | refine wo_n rfl (nv_lenT rfl rfl rfl) rfl rfl ?_
          refine wo_n rfl (nv_gtrF rfl rfl rfl (by first | assumption | decide | omega)) rfl rfl ?_
          refine wo_nil ?_
          refine thenW_n ?_
          refine wc_false rfl ?_
          refine wc_skip ?_
          refine thenW_n ?_
          refine wc_seq ?_
          refine wc_region ?_
          refine wo_n rfl (nv_assign rfl rfl) rfl rfl ?_
          refine wo_nil ?_
          refine thenW_n ?_
          refine wc_seq ?_
          refine wc_seq ?_
          refine wc_region ?_
          refine wo_n rfl (nv_move rfl rfl) rfl rfl ?_
          refine wo_nil ?_
          refine thenW_n ?_
          refine wc_block ?_
          refine wc_seq ?_
          refine wc_block ?_
          refine wc_seq ?_
          refine wc_block ?_
          refine wc_seq ?_
          refine wc_block ?_
          refine wc_seq ?_
          refine wc_seq ?_
          refine wc_seq ?_
          refine wc_region ?_
          refine wo_n rfl (nv_eqlT rfl rfl rfl (by first | assumption | decide | omega)) rfl rfl ?_
          refine wo_n rfl (nv_assign rfl rfl) rfl rfl ?_
          refine wo_nil ?_
          refine thenW_n ?_
          refine wc_true rfl ?_
          refine wc_exit ?_
          refine thenW_x ?_
          refine thenW_x ?_
          refine blockW_x ?_
          refine thenW_n ?_
          refine wc_region ?_
          refine wo_n rfl (nv_move rfl rfl) rfl rfl ?_
          refine wo_n rfl (nv_ixS (n := 3) rfl rfl rfl (by assumption)) rfl rfl ?_
          refine wo_call rfl rfl (by kernel_rfl) (t_e) rfl rfl ?_
          refine wo_n rfl (nv_assign rfl rfl) rfl rfl ?_
          refine wo_nil ?_
          refine blockW_n ?_
          refine thenW_n ?_
          refine wc_region ?_
          refine wo_n rfl (nv_move rfl rfl) rfl rfl ?_
          refine wo_n rfl (nv_move rfl rfl) rfl rfl ?_
          refine wo_off rfl rfl rfl ?_
          refine wo_off rfl rfl rfl ?_
          refine wo_off rfl rfl rfl ?_
          refine wo_n rfl (nv_pickF rfl rfl rfl) rfl rfl ?_
          refine wo_n rfl (nv_assign rfl rfl) rfl rfl ?_
          refine wo_nil ?_
          refine blockW_n ?_
          refine thenW_n ?_
          refine wc_seq ?_
          refine wc_region ?_
          refine wo_n rfl (nv_move rfl rfl) rfl rfl ?_
          refine wo_n rfl (nv_move rfl rfl) rfl rfl ?_
          refine wo_off rfl rfl rfl ?_
          refine wo_off rfl rfl rfl ?_
          refine wo_off rfl rfl rfl ?_
          refine wo_off rfl rfl rfl ?_
          refine wo_n rfl (nv_pickF rfl rfl rfl) rfl rfl ?_
          refine wo_n rfl (nv_move rfl rfl) rfl rfl ?_
          refine wo_off rfl rfl rfl ?_
          refine wo_off rfl rfl rfl ?_
          refine wo_off rfl rfl rfl ?_
          refine wo_off rfl rfl rfl ?_
          refine wo_n rfl (nv_pickF rfl rfl rfl) rfl rfl ?_
          refine wo_n rfl (nv_assign rfl rfl) rfl rfl ?_
          refine wo_nil ?_
          refine thenW_n ?_
          refine wc_exit ?_
          refine blockW_x ?_
          refine thenW_n ?_
          refine wc_seq ?_
          refine wc_seq ?_
          refine wc_region ?_
          refine wo_n rfl (nv_move rfl rfl) rfl rfl ?_
          refine wo_n rfl (nv_not rfl rfl) rfl rfl ?_
          refine wo_nil ?_
          refine thenW_n ?_
          refine wc_true rfl ?_
          refine wc_seq ?_
          refine wc_region ?_
          refine wo_n rfl (nv_assign rfl rfl) rfl rfl ?_
          refine wo_nil ?_
          refine thenW_n ?_
          refine wc_ret ?_
          refine thenW_r ?_
          refine endW_ret rfl rfl ?_
          exact ⟨rfl, by rw [hw]; rfl⟩
        | true =>
          rw [ht_e] at t_e
          have t_d := tail_spec (m := m) hL d
          cases ht_d : tailM d with
          | false =>
            rw [ht_d] at t_d
            have hw : widM l = 0 := by rw [hl, hr]; simp [widM, hlm, ht_e, ht_d]
            refine ev_of (fun m => hL.no _ _ m (by decide)) Tryd.func36 rfl rfl ?_
            refine wc_seq ?_
            refine wc_region ?_
            refine wo_n rfl (nv_assign rfl rfl) rfl rfl ?_
            refine wo_nil ?_
            refine thenW_n ?_
            refine wc_seq ?_
            refine wc_seq ?_
            refine wc_region ?_
            refine wo_n rfl (nv_move rfl rfl) rfl rfl ?_
            refine wo_n rfl (nv_seqlF (u := txt []) rfl rfl (show _ = some (vs (txt [])) by kernel_rfl) (by assumption)) rfl rfl ?_
            refine wo_nil ?_
            refine thenW_n ?_
            refine wc_false rfl ?_
            refine wc_skip ?_
            refine thenW_n ?_
            refine wc_seq ?_
            refine wc_region ?_
            refine wo_n rfl (nv_move rfl rfl) rfl rfl ?_
            refine wo_n rfl (nv_ixS (n := 0) rfl rfl rfl (by assumption)) rfl rfl ?_
            refine wo_call rfl rfl (by kernel_rfl) (hld) rfl rfl ?_
            refine wo_n rfl (nv_move rfl rfl) rfl rfl ?_
            refine wo_n rfl (nv_ex rfl rfl rfl) rfl rfl ?_
            refine wo_n rfl (nv_ex rfl rfl rfl) rfl rfl ?_
            refine wo_n rfl (nv_ex rfl rfl rfl) rfl rfl ?_
            refine wo_n rfl (nv_assign rfl rfl) rfl rfl ?_
            refine wo_n rfl (nv_assign rfl rfl) rfl rfl ?_
            refine wo_n rfl (nv_assign rfl rfl) rfl rfl ?_
            refine wo_nil ?_
            refine thenW_n ?_
            refine wc_seq ?_
            refine wc_seq ?_
            refine wc_region ?_
            refine wo_n rfl (nv_move rfl rfl) rfl rfl ?_
            refine wo_n rfl (nv_move rfl rfl) rfl rfl ?_
            first
              | refine wo_n rfl (nv_lenL rfl rfl rfl) rfl rfl ?_
              | refine wo_n rfl (nv_lenT rfl rfl rfl) rfl rfl ?_
            refine wo_n rfl (nv_gtrF rfl rfl rfl (by first | assumption | decide | omega)) rfl rfl ?_
            refine wo_nil ?_
            refine thenW_n ?_
            refine wc_false rfl ?_
            refine wc_skip ?_
            refine thenW_n ?_
            refine wc_seq ?_
            refine wc_region ?_
            refine wo_n rfl (nv_assign rfl rfl) rfl rfl ?_
            refine wo_nil ?_
            refine thenW_n ?_
            refine wc_seq ?_
            refine wc_seq ?_
            refine wc_region ?_
            refine wo_n rfl (nv_move rfl rfl) rfl rfl ?_
            refine wo_nil ?_
            refine thenW_n ?_
            refine wc_block ?_
            refine wc_seq ?_
            refine wc_block ?_
            refine wc_seq ?_
            refine wc_block ?_
            refine wc_seq ?_
            refine wc_block ?_
            refine wc_seq ?_
            refine wc_seq ?_
            refine wc_seq ?_
            refine wc_region ?_
            refine wo_n rfl (nv_eqlT rfl rfl rfl (by first | assumption | decide | omega)) rfl rfl ?_
            refine wo_n rfl (nv_assign rfl rfl) rfl rfl ?_
            refine wo_nil ?_
            refine thenW_n ?_
            refine wc_true rfl ?_
            refine wc_exit ?_
            refine thenW_x ?_
            refine thenW_x ?_
            refine blockW_x ?_
            refine thenW_n ?_
            refine wc_region ?_
            refine wo_n rfl (nv_move rfl rfl) rfl rfl ?_
            refine wo_n rfl (nv_ixS (n := 3) rfl rfl rfl (by assumption)) rfl rfl ?_
            refine wo_call rfl rfl (by kernel_rfl) (t_e) rfl rfl ?_
            refine wo_n rfl (nv_assign rfl rfl) rfl rfl ?_
            refine wo_nil ?_
            refine blockW_n ?_
            refine thenW_n ?_
            refine wc_region ?_
            refine wo_n rfl (nv_move rfl rfl) rfl rfl ?_
            refine wo_n rfl (nv_move rfl rfl) rfl rfl ?_
            refine wo_n rfl (nv_move rfl rfl) rfl rfl ?_
            refine wo_n rfl (nv_ixS (n := 2) rfl rfl rfl (by assumption)) rfl rfl ?_
            refine wo_call rfl rfl (by kernel_rfl) (t_d) rfl rfl ?_
            refine wo_n rfl (nv_pickT rfl rfl rfl) rfl rfl ?_
            refine wo_n rfl (nv_assign rfl rfl) rfl rfl ?_
            refine wo_nil ?_
            refine blockW_n ?_
            refine thenW_n ?_
            refine wc_seq ?_
            refine wc_region ?_
            refine wo_n rfl (nv_move rfl rfl) rfl rfl ?_
            refine wo_n rfl (nv_move rfl rfl) rfl rfl ?_
            refine wo_off rfl rfl rfl ?_
            refine wo_off rfl rfl rfl ?_
            refine wo_off rfl rfl rfl ?_
            refine wo_off rfl rfl rfl ?_
            refine wo_n rfl (nv_pickF rfl rfl rfl) rfl rfl ?_
            refine wo_n rfl (nv_move rfl rfl) rfl rfl ?_
            refine wo_off rfl rfl rfl ?_
            refine wo_off rfl rfl rfl ?_
            refine wo_off rfl rfl rfl ?_
            refine wo_off rfl rfl rfl ?_
            refine wo_n rfl (nv_pickF rfl rfl rfl) rfl rfl ?_
            refine wo_n rfl (nv_assign rfl rfl) rfl rfl ?_
            refine wo_nil ?_
            refine thenW_n ?_
            refine wc_exit ?_
            refine blockW_x ?_
            refine thenW_n ?_
            refine wc_seq ?_
            refine wc_seq ?_
            refine wc_region ?_
            refine wo_n rfl (nv_move rfl rfl) rfl rfl ?_
            refine wo_n rfl (nv_not rfl rfl) rfl rfl ?_
            refine wo_nil ?_
            refine thenW_n ?_
            refine wc_true rfl ?_
            refine wc_seq ?_
            refine wc_region ?_
            refine wo_n rfl (nv_assign rfl rfl) rfl rfl ?_
            refine wo_nil ?_
            refine thenW_n ?_
            refine wc_ret ?_
            refine thenW_r ?_
            refine endW_ret rfl rfl ?_
            exact ⟨rfl, by rw [hw]; rfl⟩
          | true =>
            rw [ht_d] at t_d
            by_cases g1 : lo ≤ c.toNat
            · by_cases g2 : c.toNat ≤ hi
              · have hw : widM l = 4 := by rw [hl, hr]; simp [widM, hlm, secM, g1, g2, ht_e, ht_d]
                refine ev_of (fun m => hL.no _ _ m (by decide)) Tryd.func36 rfl rfl ?_
                refine wc_seq ?_
                refine wc_region ?_
                refine wo_n rfl (nv_assign rfl rfl) rfl rfl ?_
                refine wo_nil ?_
                refine thenW_n ?_
                refine wc_seq ?_
                refine wc_seq ?_
                refine wc_region ?_
                refine wo_n rfl (nv_move rfl rfl) rfl rfl ?_
                refine wo_n rfl (nv_seqlF (u := txt []) rfl rfl (show _ = some (vs (txt [])) by kernel_rfl) (by assumption)) rfl rfl ?_
                refine wo_nil ?_
                refine thenW_n ?_
                refine wc_false rfl ?_
                refine wc_skip ?_
                refine thenW_n ?_
                refine wc_seq ?_
                refine wc_region ?_
                refine wo_n rfl (nv_move rfl rfl) rfl rfl ?_
                refine wo_n rfl (nv_ixS (n := 0) rfl rfl rfl (by assumption)) rfl rfl ?_
                refine wo_call rfl rfl (by kernel_rfl) (hld) rfl rfl ?_
                refine wo_n rfl (nv_move rfl rfl) rfl rfl ?_
                refine wo_n rfl (nv_ex rfl rfl rfl) rfl rfl ?_
                refine wo_n rfl (nv_ex rfl rfl rfl) rfl rfl ?_
                refine wo_n rfl (nv_ex rfl rfl rfl) rfl rfl ?_
                refine wo_n rfl (nv_assign rfl rfl) rfl rfl ?_
                refine wo_n rfl (nv_assign rfl rfl) rfl rfl ?_
                refine wo_n rfl (nv_assign rfl rfl) rfl rfl ?_
                refine wo_nil ?_
                refine thenW_n ?_
                refine wc_seq ?_
                refine wc_seq ?_
                refine wc_region ?_
                refine wo_n rfl (nv_move rfl rfl) rfl rfl ?_
                refine wo_n rfl (nv_move rfl rfl) rfl rfl ?_
                first
                  | refine wo_n rfl (nv_lenL rfl rfl rfl) rfl rfl ?_
                  | refine wo_n rfl (nv_lenT rfl rfl rfl) rfl rfl ?_
                refine wo_n rfl (nv_gtrF rfl rfl rfl (by first | assumption | decide | omega)) rfl rfl ?_
                refine wo_nil ?_
                refine thenW_n ?_
                refine wc_false rfl ?_
                refine wc_skip ?_
                refine thenW_n ?_
                refine wc_seq ?_
                refine wc_region ?_
                refine wo_n rfl (nv_assign rfl rfl) rfl rfl ?_
                refine wo_nil ?_
                refine thenW_n ?_
                refine wc_seq ?_
                refine wc_seq ?_
                refine wc_region ?_
                refine wo_n rfl (nv_move rfl rfl) rfl rfl ?_
                refine wo_nil ?_
                refine thenW_n ?_
                refine wc_block ?_
                refine wc_seq ?_
                refine wc_block ?_
                refine wc_seq ?_
                refine wc_block ?_
                refine wc_seq ?_
                refine wc_block ?_
                refine wc_seq ?_
                refine wc_seq ?_
                refine wc_seq ?_
                refine wc_region ?_
                refine wo_n rfl (nv_eqlT rfl rfl rfl (by first | assumption | decide | omega)) rfl rfl ?_
                refine wo_n rfl (nv_assign rfl rfl) rfl rfl ?_
                refine wo_nil ?_
                refine thenW_n ?_
                refine wc_true rfl ?_
                refine wc_exit ?_
                refine thenW_x ?_
                refine thenW_x ?_
                refine blockW_x ?_
                refine thenW_n ?_
                refine wc_region ?_
                refine wo_n rfl (nv_move rfl rfl) rfl rfl ?_
                refine wo_n rfl (nv_ixS (n := 3) rfl rfl rfl (by assumption)) rfl rfl ?_
                refine wo_call rfl rfl (by kernel_rfl) (t_e) rfl rfl ?_
                refine wo_n rfl (nv_assign rfl rfl) rfl rfl ?_
                refine wo_nil ?_
                refine blockW_n ?_
                refine thenW_n ?_
                refine wc_region ?_
                refine wo_n rfl (nv_move rfl rfl) rfl rfl ?_
                refine wo_n rfl (nv_move rfl rfl) rfl rfl ?_
                refine wo_n rfl (nv_move rfl rfl) rfl rfl ?_
                refine wo_n rfl (nv_ixS (n := 2) rfl rfl rfl (by assumption)) rfl rfl ?_
                refine wo_call rfl rfl (by kernel_rfl) (t_d) rfl rfl ?_
                refine wo_n rfl (nv_pickT rfl rfl rfl) rfl rfl ?_
                refine wo_n rfl (nv_assign rfl rfl) rfl rfl ?_
                refine wo_nil ?_
                refine blockW_n ?_
                refine thenW_n ?_
                refine wc_seq ?_
                refine wc_region ?_
                refine wo_n rfl (nv_move rfl rfl) rfl rfl ?_
                refine wo_n rfl (nv_move rfl rfl) rfl rfl ?_
                refine wo_n rfl (nv_move rfl rfl) rfl rfl ?_
                refine wo_n rfl (nv_ixS (n := 1) rfl rfl rfl (by assumption)) rfl rfl ?_
                refine wo_n rfl (nv_move rfl rfl) rfl rfl ?_
                refine wo_n rfl (nv_geqT rfl rfl rfl (by first | assumption | decide | omega)) rfl rfl ?_
                refine wo_n rfl (nv_pickT rfl rfl rfl) rfl rfl ?_
                refine wo_n rfl (nv_move rfl rfl) rfl rfl ?_
                refine wo_n rfl (nv_move rfl rfl) rfl rfl ?_
                refine wo_n rfl (nv_ixS (n := 1) rfl rfl rfl (by assumption)) rfl rfl ?_
                refine wo_n rfl (nv_move rfl rfl) rfl rfl ?_
                refine wo_n rfl (nv_leqT rfl rfl rfl (by first | assumption | decide | omega)) rfl rfl ?_
                refine wo_n rfl (nv_pickT rfl rfl rfl) rfl rfl ?_
                refine wo_n rfl (nv_assign rfl rfl) rfl rfl ?_
                refine wo_nil ?_
                refine thenW_n ?_
                refine wc_exit ?_
                refine blockW_x ?_
                refine thenW_n ?_
                refine wc_seq ?_
                refine wc_seq ?_
                refine wc_region ?_
                refine wo_n rfl (nv_move rfl rfl) rfl rfl ?_
                refine wo_n rfl (nv_not rfl rfl) rfl rfl ?_
                refine wo_nil ?_
                refine thenW_n ?_
                refine wc_false rfl ?_
                refine wc_skip ?_
                refine thenW_n ?_
                refine wc_seq ?_
                refine wc_region ?_
                refine wo_n rfl (nv_move rfl rfl) rfl rfl ?_
                refine wo_n rfl (nv_assign rfl rfl) rfl rfl ?_
                refine wo_nil ?_
                refine thenW_n ?_
                refine wc_ret ?_
                refine endW_ret rfl rfl ?_
                exact ⟨rfl, by rw [hw]⟩
              · have hw : widM l = 0 := by rw [hl, hr]; simp [widM, hlm, secM, g1, g2, ht_e, ht_d]
                refine ev_of (fun m => hL.no _ _ m (by decide)) Tryd.func36 rfl rfl ?_
                refine wc_seq ?_
                refine wc_region ?_
                refine wo_n rfl (nv_assign rfl rfl) rfl rfl ?_
                refine wo_nil ?_
                refine thenW_n ?_
                refine wc_seq ?_
                refine wc_seq ?_
                refine wc_region ?_
                refine wo_n rfl (nv_move rfl rfl) rfl rfl ?_
                refine wo_n rfl (nv_seqlF (u := txt []) rfl rfl (show _ = some (vs (txt [])) by kernel_rfl) (by assumption)) rfl rfl ?_
                refine wo_nil ?_
                refine thenW_n ?_
                refine wc_false rfl ?_
                refine wc_skip ?_
                refine thenW_n ?_
                refine wc_seq ?_
                refine wc_region ?_
                refine wo_n rfl (nv_move rfl rfl) rfl rfl ?_
                refine wo_n rfl (nv_ixS (n := 0) rfl rfl rfl (by assumption)) rfl rfl ?_
                refine wo_call rfl rfl (by kernel_rfl) (hld) rfl rfl ?_
                refine wo_n rfl (nv_move rfl rfl) rfl rfl ?_
                refine wo_n rfl (nv_ex rfl rfl rfl) rfl rfl ?_
                refine wo_n rfl (nv_ex rfl rfl rfl) rfl rfl ?_
                refine wo_n rfl (nv_ex rfl rfl rfl) rfl rfl ?_
                refine wo_n rfl (nv_assign rfl rfl) rfl rfl ?_
                refine wo_n rfl (nv_assign rfl rfl) rfl rfl ?_
                refine wo_n rfl (nv_assign rfl rfl) rfl rfl ?_
                refine wo_nil ?_
                refine thenW_n ?_
                refine wc_seq ?_
                refine wc_seq ?_
                refine wc_region ?_
                refine wo_n rfl (nv_move rfl rfl) rfl rfl ?_
                refine wo_n rfl (nv_move rfl rfl) rfl rfl ?_
                first
                  | refine wo_n rfl (nv_lenL rfl rfl rfl) rfl rfl ?_
                  | refine wo_n rfl (nv_lenT rfl rfl rfl) rfl rfl ?_
                refine wo_n rfl (nv_gtrF rfl rfl rfl (by first | assumption | decide | omega)) rfl rfl ?_
                refine wo_nil ?_
                refine thenW_n ?_
                refine wc_false rfl ?_
                refine wc_skip ?_
                refine thenW_n ?_
                refine wc_seq ?_
                refine wc_region ?_
                refine wo_n rfl (nv_assign rfl rfl) rfl rfl ?_
                refine wo_nil ?_
                refine thenW_n ?_
                refine wc_seq ?_
                refine wc_seq ?_
                refine wc_region ?_
                refine wo_n rfl (nv_move rfl rfl) rfl rfl ?_
                refine wo_nil ?_
                refine thenW_n ?_
                refine wc_block ?_
                refine wc_seq ?_
                refine wc_block ?_
                refine wc_seq ?_
                refine wc_block ?_
                refine wc_seq ?_
                refine wc_block ?_
                refine wc_seq ?_
                refine wc_seq ?_
                refine wc_seq ?_
                refine wc_region ?_
                refine wo_n rfl (nv_eqlT rfl rfl rfl (by first | assumption | decide | omega)) rfl rfl ?_
                refine wo_n rfl (nv_assign rfl rfl) rfl rfl ?_
                refine wo_nil ?_
                refine thenW_n ?_
                refine wc_true rfl ?_
                refine wc_exit ?_
                refine thenW_x ?_
                refine thenW_x ?_
                refine blockW_x ?_
                refine thenW_n ?_
                refine wc_region ?_
                refine wo_n rfl (nv_move rfl rfl) rfl rfl ?_
                refine wo_n rfl (nv_ixS (n := 3) rfl rfl rfl (by assumption)) rfl rfl ?_
                refine wo_call rfl rfl (by kernel_rfl) (t_e) rfl rfl ?_
                refine wo_n rfl (nv_assign rfl rfl) rfl rfl ?_
                refine wo_nil ?_
                refine blockW_n ?_
                refine thenW_n ?_
                refine wc_region ?_
                refine wo_n rfl (nv_move rfl rfl) rfl rfl ?_
                refine wo_n rfl (nv_move rfl rfl) rfl rfl ?_
                refine wo_n rfl (nv_move rfl rfl) rfl rfl ?_
                refine wo_n rfl (nv_ixS (n := 2) rfl rfl rfl (by assumption)) rfl rfl ?_
                refine wo_call rfl rfl (by kernel_rfl) (t_d) rfl rfl ?_
                refine wo_n rfl (nv_pickT rfl rfl rfl) rfl rfl ?_
                refine wo_n rfl (nv_assign rfl rfl) rfl rfl ?_
                refine wo_nil ?_
                refine blockW_n ?_
                refine thenW_n ?_
                refine wc_seq ?_
                refine wc_region ?_
                refine wo_n rfl (nv_move rfl rfl) rfl rfl ?_
                refine wo_n rfl (nv_move rfl rfl) rfl rfl ?_
                refine wo_n rfl (nv_move rfl rfl) rfl rfl ?_
                refine wo_n rfl (nv_ixS (n := 1) rfl rfl rfl (by assumption)) rfl rfl ?_
                refine wo_n rfl (nv_move rfl rfl) rfl rfl ?_
                refine wo_n rfl (nv_geqT rfl rfl rfl (by first | assumption | decide | omega)) rfl rfl ?_
                refine wo_n rfl (nv_pickT rfl rfl rfl) rfl rfl ?_
                refine wo_n rfl (nv_move rfl rfl) rfl rfl ?_
                refine wo_n rfl (nv_move rfl rfl) rfl rfl ?_
                refine wo_n rfl (nv_ixS (n := 1) rfl rfl rfl (by assumption)) rfl rfl ?_
                refine wo_n rfl (nv_move rfl rfl) rfl rfl ?_
                refine wo_n rfl (nv_leqF rfl rfl rfl (by first | assumption | decide | omega)) rfl rfl ?_
                refine wo_n rfl (nv_pickT rfl rfl rfl) rfl rfl ?_
                refine wo_n rfl (nv_assign rfl rfl) rfl rfl ?_
                refine wo_nil ?_
                refine thenW_n ?_
                refine wc_exit ?_
                refine blockW_x ?_
                refine thenW_n ?_
                refine wc_seq ?_
                refine wc_seq ?_
                refine wc_region ?_
                refine wo_n rfl (nv_move rfl rfl) rfl rfl ?_
                refine wo_n rfl (nv_not rfl rfl) rfl rfl ?_
                refine wo_nil ?_
                refine thenW_n ?_
                refine wc_true rfl ?_
                refine wc_seq ?_
                refine wc_region ?_
                refine wo_n rfl (nv_assign rfl rfl) rfl rfl ?_
                refine wo_nil ?_
                refine thenW_n ?_
                refine wc_ret ?_
                refine thenW_r ?_
                refine endW_ret rfl rfl ?_
                exact ⟨rfl, by rw [hw]; rfl⟩
            · have hw : widM l = 0 := by rw [hl, hr]; simp [widM, hlm, secM, g1, ht_e, ht_d]
              refine ev_of (fun m => hL.no _ _ m (by decide)) Tryd.func36 rfl rfl ?_
              refine wc_seq ?_
              refine wc_region ?_
              refine wo_n rfl (nv_assign rfl rfl) rfl rfl ?_
              refine wo_nil ?_
              refine thenW_n ?_
              refine wc_seq ?_
              refine wc_seq ?_
              refine wc_region ?_
              refine wo_n rfl (nv_move rfl rfl) rfl rfl ?_
              refine wo_n rfl (nv_seqlF (u := txt []) rfl rfl (show _ = some (vs (txt [])) by kernel_rfl) (by assumption)) rfl rfl ?_
              refine wo_nil ?_
              refine thenW_n ?_
              refine wc_false rfl ?_
              refine wc_skip ?_
              refine thenW_n ?_
              refine wc_seq ?_
              refine wc_region ?_
              refine wo_n rfl (nv_move rfl rfl) rfl rfl ?_
              refine wo_n rfl (nv_ixS (n := 0) rfl rfl rfl (by assumption)) rfl rfl ?_
              refine wo_call rfl rfl (by kernel_rfl) (hld) rfl rfl ?_
              refine wo_n rfl (nv_move rfl rfl) rfl rfl ?_
              refine wo_n rfl (nv_ex rfl rfl rfl) rfl rfl ?_
              refine wo_n rfl (nv_ex rfl rfl rfl) rfl rfl ?_
              refine wo_n rfl (nv_ex rfl rfl rfl) rfl rfl ?_
              refine wo_n rfl (nv_assign rfl rfl) rfl rfl ?_
              refine wo_n rfl (nv_assign rfl rfl) rfl rfl ?_
              refine wo_n rfl (nv_assign rfl rfl) rfl rfl ?_
              refine wo_nil ?_
              refine thenW_n ?_
              refine wc_seq ?_
              refine wc_seq ?_
              refine wc_region ?_
              refine wo_n rfl (nv_move rfl rfl) rfl rfl ?_
              refine wo_n rfl (nv_move rfl rfl) rfl rfl ?_
              first
                | refine wo_n rfl (nv_lenL rfl rfl rfl) rfl rfl ?_
                | refine wo_n rfl (nv_lenT rfl rfl rfl) rfl rfl ?_
              refine wo_n rfl (nv_gtrF rfl rfl rfl (by first | assumption | decide | omega)) rfl rfl ?_
              refine wo_nil ?_
              refine thenW_n ?_
              refine wc_false rfl ?_
              refine wc_skip ?_
              refine thenW_n ?_
              refine wc_seq ?_
              refine wc_region ?_
              refine wo_n rfl (nv_assign rfl rfl) rfl rfl ?_
              refine wo_nil ?_
              refine thenW_n ?_
              refine wc_seq ?_
              refine wc_seq ?_
              refine wc_region ?_
              refine wo_n rfl (nv_move rfl rfl) rfl rfl ?_
              refine wo_nil ?_
              refine thenW_n ?_
              refine wc_block ?_
              refine wc_seq ?_
              refine wc_block ?_
              refine wc_seq ?_
              refine wc_block ?_
              refine wc_seq ?_
              refine wc_block ?_
              refine wc_seq ?_
              refine wc_seq ?_
              refine wc_seq ?_
              refine wc_region ?_
              refine wo_n rfl (nv_eqlT rfl rfl rfl (by first | assumption | decide | omega)) rfl rfl ?_
              refine wo_n rfl (nv_assign rfl rfl) rfl rfl ?_
              refine wo_nil ?_
              refine thenW_n ?_
              refine wc_true rfl ?_
              refine wc_exit ?_
              refine thenW_x ?_
              refine thenW_x ?_
              refine blockW_x ?_
              refine thenW_n ?_
              refine wc_region ?_
              refine wo_n rfl (nv_move rfl rfl) rfl rfl ?_
              refine wo_n rfl (nv_ixS (n := 3) rfl rfl rfl (by assumption)) rfl rfl ?_
              refine wo_call rfl rfl (by kernel_rfl) (t_e) rfl rfl ?_
              refine wo_n rfl (nv_assign rfl rfl) rfl rfl ?_
              refine wo_nil ?_
              refine blockW_n ?_
              refine thenW_n ?_
              refine wc_region ?_
              refine wo_n rfl (nv_move rfl rfl) rfl rfl ?_
              refine wo_n rfl (nv_move rfl rfl) rfl rfl ?_
              refine wo_n rfl (nv_move rfl rfl) rfl rfl ?_
              refine wo_n rfl (nv_ixS (n := 2) rfl rfl rfl (by assumption)) rfl rfl ?_
              refine wo_call rfl rfl (by kernel_rfl) (t_d) rfl rfl ?_
              refine wo_n rfl (nv_pickT rfl rfl rfl) rfl rfl ?_
              refine wo_n rfl (nv_assign rfl rfl) rfl rfl ?_
              refine wo_nil ?_
              refine blockW_n ?_
              refine thenW_n ?_
              refine wc_seq ?_
              refine wc_region ?_
              refine wo_n rfl (nv_move rfl rfl) rfl rfl ?_
              refine wo_n rfl (nv_move rfl rfl) rfl rfl ?_
              refine wo_n rfl (nv_move rfl rfl) rfl rfl ?_
              refine wo_n rfl (nv_ixS (n := 1) rfl rfl rfl (by assumption)) rfl rfl ?_
              refine wo_n rfl (nv_move rfl rfl) rfl rfl ?_
              refine wo_n rfl (nv_geqF rfl rfl rfl (by first | assumption | decide | omega)) rfl rfl ?_
              refine wo_n rfl (nv_pickT rfl rfl rfl) rfl rfl ?_
              refine wo_n rfl (nv_move rfl rfl) rfl rfl ?_
              refine wo_off rfl rfl rfl ?_
              refine wo_off rfl rfl rfl ?_
              refine wo_off rfl rfl rfl ?_
              refine wo_off rfl rfl rfl ?_
              refine wo_n rfl (nv_pickF rfl rfl rfl) rfl rfl ?_
              refine wo_n rfl (nv_assign rfl rfl) rfl rfl ?_
              refine wo_nil ?_
              refine thenW_n ?_
              refine wc_exit ?_
              refine blockW_x ?_
              refine thenW_n ?_
              refine wc_seq ?_
              refine wc_seq ?_
              refine wc_region ?_
              refine wo_n rfl (nv_move rfl rfl) rfl rfl ?_
              refine wo_n rfl (nv_not rfl rfl) rfl rfl ?_
              refine wo_nil ?_
              refine thenW_n ?_
              refine wc_true rfl ?_
              refine wc_seq ?_
              refine wc_region ?_
              refine wo_n rfl (nv_assign rfl rfl) rfl rfl ?_
              refine wo_nil ?_
              refine thenW_n ?_
              refine wc_ret ?_
              refine thenW_r ?_
              refine endW_ret rfl rfl ?_
              exact ⟨rfl, by rw [hw]; rfl⟩
      · have hw : widM l = 0 := by
          rw [hl]
          match r, hlen with
          | [], _ => simp [widM, hlm]
          | [_], _ => simp [widM, hlm]
          | [_, _], _ => simp [widM, hlm]
          | _ :: _ :: _ :: _, h => simp at h; omega
        refine ev_of (fun m => hL.no _ _ m (by decide)) Tryd.func36 rfl rfl ?_
        refine wc_seq ?_
        refine wc_region ?_
        refine wo_n rfl (nv_assign rfl rfl) rfl rfl ?_
        refine wo_nil ?_
        refine thenW_n ?_
        refine wc_seq ?_
        refine wc_seq ?_
        refine wc_region ?_
        refine wo_n rfl (nv_move rfl rfl) rfl rfl ?_
        refine wo_n rfl (nv_seqlF (u := txt []) rfl rfl (show _ = some (vs (txt [])) by kernel_rfl) (by assumption)) rfl rfl ?_
        refine wo_nil ?_
        refine thenW_n ?_
        refine wc_false rfl ?_
        refine wc_skip ?_
        refine thenW_n ?_
        refine wc_seq ?_
        refine wc_region ?_
        refine wo_n rfl (nv_move rfl rfl) rfl rfl ?_
        refine wo_n rfl (nv_ixS (n := 0) rfl rfl rfl (by assumption)) rfl rfl ?_
        refine wo_call rfl rfl (by kernel_rfl) (hld) rfl rfl ?_
        refine wo_n rfl (nv_move rfl rfl) rfl rfl ?_
        refine wo_n rfl (nv_ex rfl rfl rfl) rfl rfl ?_
        refine wo_n rfl (nv_ex rfl rfl rfl) rfl rfl ?_
        refine wo_n rfl (nv_ex rfl rfl rfl) rfl rfl ?_
        refine wo_n rfl (nv_assign rfl rfl) rfl rfl ?_
        refine wo_n rfl (nv_assign rfl rfl) rfl rfl ?_
        refine wo_n rfl (nv_assign rfl rfl) rfl rfl ?_
        refine wo_nil ?_
        refine thenW_n ?_
        refine wc_seq ?_
        refine wc_seq ?_
        refine wc_region ?_
        refine wo_n rfl (nv_move rfl rfl) rfl rfl ?_
        refine wo_n rfl (nv_move rfl rfl) rfl rfl ?_
        first
          | refine wo_n rfl (nv_lenL rfl rfl rfl) rfl rfl ?_
          | refine wo_n rfl (nv_lenT rfl rfl rfl) rfl rfl ?_
        refine wo_n rfl (nv_gtrT rfl rfl rfl (by first | assumption | decide | omega)) rfl rfl ?_
        refine wo_nil ?_
        refine thenW_n ?_
        refine wc_true rfl ?_
        refine wc_seq ?_
        refine wc_region ?_
        refine wo_n rfl (nv_assign rfl rfl) rfl rfl ?_
        refine wo_nil ?_
        refine thenW_n ?_
        refine wc_ret ?_
        refine thenW_r ?_
        refine endW_ret rfl rfl ?_
        exact ⟨rfl, by rw [hw]; rfl⟩
omit hL in
theorem widM_le (l : List UInt8) : widM l ≤ l.length := by
  unfold widM
  split
  · exact Nat.zero_le _
  · split
    · simp
    · split
      · split <;> simp
      · exact Nat.zero_le _
    · split
      · split <;> simp
      · exact Nat.zero_le _
    · split
      · split <;> simp
      · exact Nat.zero_le _
    · exact Nat.zero_le _
omit hL in
theorem badM_fuel : ∀ (f g p : Nat) (l : List UInt8), l.length ≤ f → l.length ≤ g → badM f p l = badM g p l := by
  intro f
  induction f with
  | zero =>
    intro g p l hf _
    have : l = [] := List.eq_nil_of_length_eq_zero (by omega)
    subst this
    cases g <;> rfl
  | succ f ih =>
    intro g p l hf hg
    cases l with
    | nil => cases g <;> rfl
    | cons c r =>
      obtain ⟨g, rfl⟩ : ∃ k, g = k + 1 := ⟨g - 1, by simp at hg; omega⟩
      simp only [badM]
      split
      · rfl
      · rename_i h0
        have : ((c :: r).drop (widM (c :: r))).length ≤ r.length := by rw [List.length_drop]; simp; omega
        simp at hf hg
        exact ih _ _ _ (by omega) (by omega)
theorem valid_spec (l : List UInt8) (hl : l.length ≤ 4096) : ∃ a : Int, Ev Tryd.prog xb ext 24 [vs (txt l)] m (.tup [.int .i64 a, .bool (badM l.length 0 l).isNone]) m ∧ (∀ i, badM l.length 0 l = some i → a = (i : Nat)) := by
  suffices hh : ∃ v m', Ev Tryd.prog xb ext 24 [vs (txt l)] m v m' ∧ (m' = m ∧ ∃ a : Int, v = .tup [.int .i64 a, .bool (badM l.length 0 l).isNone] ∧ (∀ i, badM l.length 0 l = some i → a = (i : Nat))) by
    obtain ⟨v, m', h1, rfl, a, rfl, h2⟩ := hh
    exact ⟨a, h1, h2⟩
  refine ev_of (fun m => hL.no _ _ m (by decide)) Tryd.func24 rfl rfl ?_
  refine wc_seq ?_
  refine wc_region ?_
  refine wo_n rfl (nv_assign rfl rfl) rfl rfl ?_
  refine wo_n rfl (nv_assign rfl rfl) rfl rfl ?_
  refine wo_nil ?_
  refine thenW_n ?_
  refine wc_seq ?_
  refine wc_seq ?_
  refine wc_region ?_
  refine wo_n rfl (nv_assign rfl rfl) rfl rfl ?_
  refine wo_nil ?_
  refine thenW_n ?_
  refine wc_block ?_
  refine wc_loop (fun q e m' => ∃ i : Nat, q = l.length - i ∧ i ≤ l.length ∧ m' = m ∧ ELe (envL [(0, vs (txt l)), (4, .int .i64 (i : Nat))]) e ∧ badM l.length 0 l = badM (l.length - i) i (l.drop i)) l.length ⟨0, rfl, by omega, rfl, ?_, rfl⟩ ?_
  · exact .cons rfl (.cons rfl (.nil _))
  rintro q e mj ⟨i, rfl, hi, rfl, he, hb⟩
  refine Wc.weak ?_ he
  rcases Nat.lt_or_ge i l.length with hlt | hge
  · obtain ⟨f, hf⟩ : ∃ f, l.length - i = f + 1 := ⟨l.length - i - 1, by omega⟩
    obtain ⟨c, r, hcr⟩ : ∃ c r, l.drop i = c :: r := ⟨l[i], l.drop (i + 1), List.drop_eq_getElem_cons hlt⟩
    have hw := width_spec (m := mj) hL (l.drop i)
    have hle := widM_le (l.drop i)
    rw [List.length_drop] at hle
    rw [hf] at hb
    by_cases h0 : widM (l.drop i) = 0
    · have hb' : badM l.length 0 l = some i := by rw [hb, hcr]; unfold badM; dsimp only; rw [← hcr, if_pos h0]
      refine wc_seq ?_
      refine wc_seq ?_
      refine wc_region ?_
      refine wo_n rfl (nv_move rfl rfl) rfl rfl ?_
      refine wo_n rfl (nv_move rfl rfl) rfl rfl ?_
      first
        | refine wo_n rfl (nv_lenL rfl rfl rfl) rfl rfl ?_
        | refine wo_n rfl (nv_lenT rfl rfl rfl) rfl rfl ?_
      refine wo_n rfl (nv_lssT rfl rfl rfl (by first | assumption | decide | omega)) rfl rfl ?_
      refine wo_nil ?_
      refine thenW_n ?_
      refine wc_true rfl ?_
      refine wc_skip ?_
      refine thenW_n ?_
      refine wc_block ?_
      refine wc_seq ?_
      refine wc_region ?_
      refine wo_n rfl (nv_move rfl rfl) rfl rfl ?_
      refine wo_n rfl (nv_move rfl rfl) rfl rfl ?_
      refine wo_n rfl (nv_slF rfl rfl rfl (by first | assumption | (simp only [List.length_drop, List.length_take]; omega) | omega)) rfl rfl ?_
      refine wo_call rfl rfl (by kernel_rfl) (hw) rfl rfl ?_
      refine wo_n rfl (nv_assign rfl rfl) rfl rfl ?_
      refine wo_nil ?_
      refine thenW_n ?_
      refine wc_seq ?_
      refine wc_seq ?_
      refine wc_region ?_
      refine wo_n rfl (nv_move rfl rfl) rfl rfl ?_
      refine wo_n rfl (nv_eqlT rfl rfl rfl (by first | assumption | decide | omega)) rfl rfl ?_
      refine wo_nil ?_
      refine thenW_n ?_
      refine wc_true rfl ?_
      refine wc_seq ?_
      refine wc_region ?_
      refine wo_n rfl (nv_move rfl rfl) rfl rfl ?_
      refine wo_n rfl (nv_assign rfl rfl) rfl rfl ?_
      refine wo_n rfl (nv_assign rfl rfl) rfl rfl ?_
      refine wo_nil ?_
      refine thenW_n ?_
      refine wc_ret ?_
      refine thenW_r ?_
      refine blockW_r ?_
      refine blockW_r ?_
      refine thenW_r ?_
      refine endW_many (by intro i hi; cases hi) rfl (rs := [.tmp 2, .tmp 3]) (.tmp rfl (.tmp rfl .nil)) (by simp) ?_
      exact ⟨rfl, _, by rw [hb']; rfl, fun j hj => by rw [hb'] at hj; cases hj; rfl⟩
    · skip
      refine wc_seq ?_
      refine wc_seq ?_
      refine wc_region ?_
      refine wo_n rfl (nv_move rfl rfl) rfl rfl ?_
      refine wo_n rfl (nv_move rfl rfl) rfl rfl ?_
      first
        | refine wo_n rfl (nv_lenL rfl rfl rfl) rfl rfl ?_
        | refine wo_n rfl (nv_lenT rfl rfl rfl) rfl rfl ?_
      refine wo_n rfl (nv_lssT rfl rfl rfl (by first | assumption | decide | omega)) rfl rfl ?_
      refine wo_nil ?_
      refine thenW_n ?_
      refine wc_true rfl ?_
      refine wc_skip ?_
      refine thenW_n ?_
      refine wc_block ?_
      refine wc_seq ?_
      refine wc_region ?_
      refine wo_n rfl (nv_move rfl rfl) rfl rfl ?_
      refine wo_n rfl (nv_move rfl rfl) rfl rfl ?_
      refine wo_n rfl (nv_slF rfl rfl rfl (by first | assumption | (simp only [List.length_drop, List.length_take]; omega) | omega)) rfl rfl ?_
      refine wo_call rfl rfl (by kernel_rfl) (hw) rfl rfl ?_
      refine wo_n rfl (nv_assign rfl rfl) rfl rfl ?_
      refine wo_nil ?_
      refine thenW_n ?_
      refine wc_seq ?_
      refine wc_seq ?_
      refine wc_region ?_
      refine wo_n rfl (nv_move rfl rfl) rfl rfl ?_
      refine wo_n rfl (nv_eqlF rfl rfl rfl (by first | assumption | decide | omega)) rfl rfl ?_
      refine wo_nil ?_
      refine thenW_n ?_
      refine wc_false rfl ?_
      refine wc_skip ?_
      refine thenW_n ?_
      refine wc_region ?_
      refine wo_n rfl (nv_move rfl rfl) rfl rfl ?_
      refine wo_n rfl (nv_move rfl rfl) rfl rfl ?_
      refine wo_n rfl (nv_add rfl rfl rfl rfl (by first | decide | omega) (by first | decide | omega)) rfl rfl ?_
      refine wo_n rfl (nv_assign rfl rfl) rfl rfl ?_
      refine wo_nil ?_
      refine blockW_n ?_
      refine ⟨l.length - (i + widM (l.drop i)), by omega, i + widM (l.drop i), rfl, by omega, rfl, .cons rfl (.cons rfl (.nil _)), ?_⟩
      have e1 : badM (f + 1) i (l.drop i) = badM f (i + widM (l.drop i)) ((l.drop i).drop (widM (l.drop i))) := by
        rw [hcr]; simp only [badM]; rw [← hcr, if_neg h0]
      rw [hb, e1, List.drop_drop]
      exact badM_fuel _ _ _ _ (by rw [List.length_drop]; omega) (by rw [List.length_drop]; omega)
  · have : i = l.length := by omega
    subst this
    have hb' : badM l.length 0 l = none := by rw [hb, Nat.sub_self]; rfl
    refine wc_seq ?_
    refine wc_seq ?_
    refine wc_region ?_
    refine wo_n rfl (nv_move rfl rfl) rfl rfl ?_
    refine wo_n rfl (nv_move rfl rfl) rfl rfl ?_
    first
      | refine wo_n rfl (nv_lenL rfl rfl rfl) rfl rfl ?_
      | refine wo_n rfl (nv_lenT rfl rfl rfl) rfl rfl ?_
    refine wo_n rfl (nv_lssF rfl rfl rfl (by first | assumption | decide | omega)) rfl rfl ?_
    refine wo_nil ?_
    refine thenW_n ?_
    refine wc_false rfl ?_
    refine wc_exit ?_
    refine thenW_x ?_
    refine blockW_x ?_
    refine thenW_n ?_
    refine wc_seq ?_
    refine wc_region ?_
    refine wo_n rfl (nv_assign rfl rfl) rfl rfl ?_
    refine wo_n rfl (nv_assign rfl rfl) rfl rfl ?_
    refine wo_nil ?_
    refine thenW_n ?_
    refine wc_ret ?_
    refine endW_many (by intro i hi; cases hi) rfl (rs := [.tmp 2, .tmp 3]) (.tmp rfl (.tmp rfl .nil)) (by simp) ?_
    exact ⟨rfl, _, by rw [hb']; rfl, fun j hj => by rw [hb'] at hj; cases hj⟩
end
end Go.Proofs.YtoedpbjeangdhaaDoor.Sy
