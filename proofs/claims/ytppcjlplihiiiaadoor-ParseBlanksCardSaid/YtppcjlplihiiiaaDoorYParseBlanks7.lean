/- Several texts in one: contracts of functions of the program, and what they lean on. In part written by a program of this session over the kit's print, in part by hand. -/
import Derived.Test.YtppcjlplihiiiaaDoorYParseBlanks5
namespace Go.Proofs.YtppcjlplihiiiaaDoor.Sy
open Go Go.Ev Go.Ev.Pm Go.Ev.Lm
set_option linter.unusedVariables false
set_option linter.unusedSimpArgs false
set_option linter.unusedSectionVars false
section
variable {m : Mem} {xb : XB} {ext : CallF} (hL : LH xb ext)
include hL
theorem number_spec (l : List UInt8) (hl : l.length ≤ 4096) : ∃ x : Int, Ev Tryd.prog xb ext 43 [vs (txt l)] m (.tup [.int .i64 x, .bool (nOk l)]) m ∧ (nOk l = true → x = (numV l : Nat)) := by
  have hrun := run_spec (m := m) hL l digitsL hl
  have hmd : (fun c => decide (c ∈ digitsL)) = isDig := funext mem_digits
  rw [hmd] at hrun
  suffices hh : ∃ v m', Ev Tryd.prog xb ext 43 [vs (txt l)] m v m' ∧ (m' = m ∧ ∃ x : Int, v = .tup [.int .i64 x, .bool (nOk l)] ∧ (nOk l = true → x = (numV l : Nat))) by
    obtain ⟨v, m', h1, rfl, x, rfl, h2⟩ := hh
    exact ⟨x, h1, h2⟩
  by_cases hd : l.takeWhile isDig = l
  · have had : l.all isDig = true := by
      rw [← hd]
      exact List.all_takeWhile
    have hd' : txt (l.takeWhile isDig) = txt l := by rw [hd]
    have hloop : ∀ (Qx : X → Env → Mem → Prop), True := fun _ => trivial
    by_cases h1 : l.length ≤ 1
    · have hnum : nOk l = decide (numV l ≤ 1073741823) := by simp [nOk, had, h1]
      refine ev_of (fun m => hL.no _ _ m (by decide)) Tryd.func43 rfl rfl ?_
      refine wc_seq (wc_region (wa rfl rfl (wa rfl rfl (wo_nil (thenW_n (wc_seq (wc_seq (wc_region (wm rfl rfl ?_)))))))))
      refine wo_call rfl rfl (by kernel_rfl) (hrun) rfl rfl ?_
      refine wm rfl rfl (wo_n rfl (nv_sneqF  rfl rfl rfl (by assumption)) rfl rfl (wm rfl rfl (wm rfl rfl ?_)))
      first
        | refine wo_n rfl (nv_lenL rfl rfl rfl) rfl rfl ?_
        | refine wo_n rfl (nv_lenT rfl rfl rfl) rfl rfl ?_
      refine wo_n rfl (nv_gtrF rfl rfl rfl (by first | assumption | decide | omega)) rfl rfl (wm rfl rfl (wg rfl (wg rfl (wg rfl (wq rfl rfl rfl (wq rfl rfl rfl (wo_nil (thenW_n (wc_false rfl ?_)))))))))
      refine wc_skip (thenW_n (wc_seq (wc_region (wa rfl rfl (wo_nil (thenW_n (wc_seq (wc_seq (wc_region ?_)))))))))
      refine wm rfl rfl ?_
      first
        | refine wo_n rfl (nv_lenL rfl rfl rfl) rfl rfl ?_
        | refine wo_n rfl (nv_lenT rfl rfl rfl) rfl rfl ?_
      refine wm rfl rfl (wo_nil (thenW_n (wc_block ?_)))
      refine wc_loop (fun q e m' => ∃ i : Nat, q = l.length - i ∧ i ≤ l.length ∧ m' = m ∧ ELe (envL [(0, vs (txt l)), (4, .int .i64 ((numV (l.take i) : Nat) : Int)), (21, .int .i64 (l.length : Nat)), (22, .int .i64 (i : Nat))]) e ∧ numV (l.take i) ≤ 1073741823) l.length ⟨0, rfl, by omega, rfl, ?_, by simp [numV]⟩ ?_
      · exact .cons rfl (.cons rfl (.cons rfl (.cons rfl (.nil _))))
      rintro q e mj ⟨i, rfl, hi, rfl, he, hv⟩
      refine Wc.weak ?_ he
      rcases Nat.lt_or_ge i l.length with hlt | hge
      · have hc : l[i]? = some l[i] := List.getElem?_eq_getElem hlt
        have hdig := dig_of (List.all_eq_true.1 had _ (List.getElem_mem hlt))
        generalize l[i] = c at hc hdig
        have hsn : numV (l.take (i + 1)) = 10 * numV (l.take i) + (c.toNat - 48) := by rw [List.take_add_one, hc]; exact numV_snoc _ _
        have hd1 := hdig.1
        have hd2 := hdig.2
        by_cases hbig : 1073741823 < numV (l.take (i + 1))
        · have hnum2 : nOk l = false := by
            have := numV_take l (i + 1)
            rw [hnum]; simp; omega
          refine wc_seq (wc_region (wo_n rfl (nv_lssT rfl rfl rfl (by first | assumption | decide | omega)) rfl rfl (wo_nil (thenW_n (wc_seq (wc_true rfl (wc_skip (thenW_n (wc_seq ?_)))))))))
          refine wc_block (wc_seq (wc_region (wm rfl rfl (wa rfl rfl (wo_nil (thenW_n (wc_seq (wc_region (wm rfl rfl ?_)))))))))
          refine wo_n rfl (nv_mul rfl rfl rfl rfl (by first | decide | omega) (by first | decide | omega)) rfl rfl ?_
          refine wm rfl rfl (wm rfl rfl (wo_n rfl (nv_ixS rfl rfl rfl (by assumption)) rfl rfl ?_))
          refine wo_n rfl (nv_subB (a := _) (b := 48) rfl rfl rfl (by omega) (by omega)) rfl rfl ?_
          refine wo_n rfl (nv_conv64 rfl rfl (by omega) (by omega)) rfl rfl ?_
          refine wo_n rfl (nv_add rfl rfl rfl rfl (by first | decide | omega) (by first | decide | omega)) rfl rfl ?_
          refine wa rfl rfl (wo_nil (thenW_n (wc_seq (wc_region (wm rfl rfl (wo_n rfl (nv_gtrT rfl rfl rfl (by first | assumption | decide | omega)) rfl rfl (wo_nil (thenW_n (wc_true rfl ?_)))))))))
          refine wc_seq (wc_region (wa rfl rfl (wa rfl rfl (wo_nil (thenW_n (wc_ret (blockW_r (thenW_r ?_))))))))
          refine blockW_r (thenW_r ?_)
          refine endW_many (by intro i hi; cases hi) rfl (rs := [.tmp 2, .tmp 3]) (.tmp rfl (.tmp rfl .nil)) (by simp) ?_
          exact ⟨rfl, _, by rw [hnum2], fun h => by rw [hnum2] at h; cases h⟩
        · skip
          refine wc_seq (wc_region (wo_n rfl (nv_lssT rfl rfl rfl (by first | assumption | decide | omega)) rfl rfl (wo_nil (thenW_n (wc_seq (wc_true rfl (wc_skip (thenW_n (wc_seq ?_)))))))))
          refine wc_block (wc_seq (wc_region (wm rfl rfl (wa rfl rfl (wo_nil (thenW_n (wc_seq (wc_region (wm rfl rfl ?_)))))))))
          refine wo_n rfl (nv_mul rfl rfl rfl rfl (by first | decide | omega) (by first | decide | omega)) rfl rfl ?_
          refine wm rfl rfl (wm rfl rfl (wo_n rfl (nv_ixS rfl rfl rfl (by assumption)) rfl rfl ?_))
          refine wo_n rfl (nv_subB (a := _) (b := 48) rfl rfl rfl (by omega) (by omega)) rfl rfl ?_
          refine wo_n rfl (nv_conv64 rfl rfl (by omega) (by omega)) rfl rfl ?_
          refine wo_n rfl (nv_add rfl rfl rfl rfl (by first | decide | omega) (by first | decide | omega)) rfl rfl ?_
          refine wa rfl rfl (wo_nil (thenW_n (wc_seq (wc_region (wm rfl rfl (wo_n rfl (nv_gtrF rfl rfl rfl (by first | assumption | decide | omega)) rfl rfl (wo_nil (thenW_n (wc_false rfl ?_)))))))))
          refine wc_skip (blockW_n (thenW_n (wc_region ?_)))
          refine wo_n rfl (nv_add rfl rfl rfl rfl (by first | decide | omega) (by first | decide | omega)) rfl rfl ?_
          refine wm rfl rfl (wo_nil ?_)
          refine ⟨l.length - (i + 1), by omega, i + 1, rfl, by omega, rfl, ?_, by omega⟩
          refine .cons rfl (.cons ?_ (.cons rfl (.cons rfl (.nil _))))
          rw [hsn]
          show some (V.int .i64 _) = some (V.int .i64 _)
          congr 2 <;> omega
      · have : i = l.length := by omega
        subst this
        rw [List.take_length] at hv
        have hnum2 : nOk l = true := by rw [hnum]; simp; omega
        refine wc_seq (wc_region (wo_n rfl (nv_lssF rfl rfl rfl (by first | assumption | decide | omega)) rfl rfl (wo_nil (thenW_n (wc_seq (wc_false rfl (wc_exit (thenW_x ?_))))))))
        refine blockW_x (thenW_n (wc_seq (wc_region (wm rfl rfl (wa rfl rfl (wa rfl rfl (wo_nil (thenW_n (wc_ret ?_)))))))))
        refine endW_many (by intro i hi; cases hi) rfl (rs := [.tmp 2, .tmp 3]) (.tmp rfl (.tmp rfl .nil)) (by simp) ?_
        exact ⟨rfl, _, by rw [hnum2], fun _ => by rw [List.take_length]⟩
    · cases h48 : l with
      | nil => rw [h48] at h1; simp at h1
      | cons c r =>
        rw [← h48]
        have hc0 : l[0]? = some c := by rw [h48]; rfl
        by_cases hc : c.toNat = 48
        · have hc' : c = 48 := UInt8.toNat_inj.1 hc
          have hnum : nOk l = false := by
            have : decide (l.length ≤ 1) = false := by simp; omega
            unfold nOk
            rw [this, h48, hc']; simp
          refine ev_of (fun m => hL.no _ _ m (by decide)) Tryd.func43 rfl rfl ?_
          refine wc_seq (wc_region (wa rfl rfl (wa rfl rfl (wo_nil (thenW_n (wc_seq (wc_seq (wc_region (wm rfl rfl ?_)))))))))
          refine wo_call rfl rfl (by kernel_rfl) (hrun) rfl rfl ?_
          refine wm rfl rfl (wo_n rfl (nv_sneqF  rfl rfl rfl (by assumption)) rfl rfl (wm rfl rfl (wm rfl rfl ?_)))
          first
            | refine wo_n rfl (nv_lenL rfl rfl rfl) rfl rfl ?_
            | refine wo_n rfl (nv_lenT rfl rfl rfl) rfl rfl ?_
          refine wo_n rfl (nv_gtrT rfl rfl rfl (by first | assumption | decide | omega)) rfl rfl (wm rfl rfl (wm rfl rfl (wo_n rfl (nv_ixS (n := 0) rfl rfl rfl (by assumption)) rfl rfl (wo_n rfl (nv_eqlT rfl rfl rfl (by first | assumption | decide | omega)) rfl rfl (wp rfl rfl rfl (wq rfl rfl rfl (wo_nil (thenW_n (wc_true rfl ?_)))))))))
          refine wc_seq (wc_region (wa rfl rfl (wa rfl rfl (wo_nil (thenW_n (wc_ret (thenW_r ?_)))))))
          refine endW_many (by intro i hi; cases hi) rfl (rs := [.tmp 2, .tmp 3]) (.tmp rfl (.tmp rfl .nil)) (by simp) ?_
          exact ⟨rfl, _, by rw [hnum], fun h => by rw [hnum] at h; cases h⟩
        · have hnum : nOk l = decide (numV l ≤ 1073741823) := by
            have : (l.head? != some 48) = true := by
              rw [h48]
              simp only [List.head?_cons, bne_iff_ne, ne_eq, Option.some.injEq]
              intro e; rw [e] at hc; exact hc rfl
            unfold nOk
            rw [had, this]; simp
          refine ev_of (fun m => hL.no _ _ m (by decide)) Tryd.func43 rfl rfl ?_
          refine wc_seq (wc_region (wa rfl rfl (wa rfl rfl (wo_nil (thenW_n (wc_seq (wc_seq (wc_region (wm rfl rfl ?_)))))))))
          refine wo_call rfl rfl (by kernel_rfl) (hrun) rfl rfl ?_
          refine wm rfl rfl (wo_n rfl (nv_sneqF  rfl rfl rfl (by assumption)) rfl rfl (wm rfl rfl (wm rfl rfl ?_)))
          first
            | refine wo_n rfl (nv_lenL rfl rfl rfl) rfl rfl ?_
            | refine wo_n rfl (nv_lenT rfl rfl rfl) rfl rfl ?_
          refine wo_n rfl (nv_gtrT rfl rfl rfl (by first | assumption | decide | omega)) rfl rfl (wm rfl rfl (wm rfl rfl (wo_n rfl (nv_ixS (n := 0) rfl rfl rfl (by assumption)) rfl rfl (wo_n rfl (nv_eqlF rfl rfl rfl (by first | assumption | decide | omega)) rfl rfl (wp rfl rfl rfl (wq rfl rfl rfl (wo_nil (thenW_n (wc_false rfl ?_)))))))))
          refine wc_skip (thenW_n (wc_seq (wc_region (wa rfl rfl (wo_nil (thenW_n (wc_seq (wc_seq (wc_region ?_)))))))))
          refine wm rfl rfl ?_
          first
            | refine wo_n rfl (nv_lenL rfl rfl rfl) rfl rfl ?_
            | refine wo_n rfl (nv_lenT rfl rfl rfl) rfl rfl ?_
          refine wm rfl rfl (wo_nil (thenW_n (wc_block ?_)))
          refine wc_loop (fun q e m' => ∃ i : Nat, q = l.length - i ∧ i ≤ l.length ∧ m' = m ∧ ELe (envL [(0, vs (txt l)), (4, .int .i64 ((numV (l.take i) : Nat) : Int)), (21, .int .i64 (l.length : Nat)), (22, .int .i64 (i : Nat))]) e ∧ numV (l.take i) ≤ 1073741823) l.length ⟨0, rfl, by omega, rfl, ?_, by simp [numV]⟩ ?_
          · exact .cons rfl (.cons rfl (.cons rfl (.cons rfl (.nil _))))
          rintro q e mj ⟨i, rfl, hi, rfl, he, hv⟩
          refine Wc.weak ?_ he
          rcases Nat.lt_or_ge i l.length with hlt | hge
          · have hc : l[i]? = some l[i] := List.getElem?_eq_getElem hlt
            have hdig := dig_of (List.all_eq_true.1 had _ (List.getElem_mem hlt))
            generalize l[i] = c at hc hdig
            have hsn : numV (l.take (i + 1)) = 10 * numV (l.take i) + (c.toNat - 48) := by rw [List.take_add_one, hc]; exact numV_snoc _ _
            have hd1 := hdig.1
            have hd2 := hdig.2
            by_cases hbig : 1073741823 < numV (l.take (i + 1))
            · have hnum2 : nOk l = false := by
                have := numV_take l (i + 1)
                rw [hnum]; simp; omega
              refine wc_seq (wc_region (wo_n rfl (nv_lssT rfl rfl rfl (by first | assumption | decide | omega)) rfl rfl (wo_nil (thenW_n (wc_seq (wc_true rfl (wc_skip (thenW_n (wc_seq ?_)))))))))
              refine wc_block (wc_seq (wc_region (wm rfl rfl (wa rfl rfl (wo_nil (thenW_n (wc_seq (wc_region (wm rfl rfl ?_)))))))))
              refine wo_n rfl (nv_mul rfl rfl rfl rfl (by first | decide | omega) (by first | decide | omega)) rfl rfl ?_
              refine wm rfl rfl (wm rfl rfl (wo_n rfl (nv_ixS rfl rfl rfl (by assumption)) rfl rfl ?_))
              refine wo_n rfl (nv_subB (a := _) (b := 48) rfl rfl rfl (by omega) (by omega)) rfl rfl ?_
              refine wo_n rfl (nv_conv64 rfl rfl (by omega) (by omega)) rfl rfl ?_
              refine wo_n rfl (nv_add rfl rfl rfl rfl (by first | decide | omega) (by first | decide | omega)) rfl rfl ?_
              refine wa rfl rfl (wo_nil (thenW_n (wc_seq (wc_region (wm rfl rfl (wo_n rfl (nv_gtrT rfl rfl rfl (by first | assumption | decide | omega)) rfl rfl (wo_nil (thenW_n (wc_true rfl ?_)))))))))
              refine wc_seq (wc_region (wa rfl rfl (wa rfl rfl (wo_nil (thenW_n (wc_ret (blockW_r (thenW_r ?_))))))))
              refine blockW_r (thenW_r ?_)
              refine endW_many (by intro i hi; cases hi) rfl (rs := [.tmp 2, .tmp 3]) (.tmp rfl (.tmp rfl .nil)) (by simp) ?_
              exact ⟨rfl, _, by rw [hnum2], fun h => by rw [hnum2] at h; cases h⟩
            · skip
              refine wc_seq (wc_region (wo_n rfl (nv_lssT rfl rfl rfl (by first | assumption | decide | omega)) rfl rfl (wo_nil (thenW_n (wc_seq (wc_true rfl (wc_skip (thenW_n (wc_seq ?_)))))))))
              refine wc_block (wc_seq (wc_region (wm rfl rfl (wa rfl rfl (wo_nil (thenW_n (wc_seq (wc_region (wm rfl rfl ?_)))))))))
              refine wo_n rfl (nv_mul rfl rfl rfl rfl (by first | decide | omega) (by first | decide | omega)) rfl rfl ?_
              refine wm rfl rfl (wm rfl rfl (wo_n rfl (nv_ixS rfl rfl rfl (by assumption)) rfl rfl ?_))
              refine wo_n rfl (nv_subB (a := _) (b := 48) rfl rfl rfl (by omega) (by omega)) rfl rfl ?_
              refine wo_n rfl (nv_conv64 rfl rfl (by omega) (by omega)) rfl rfl ?_
              refine wo_n rfl (nv_add rfl rfl rfl rfl (by first | decide | omega) (by first | decide | omega)) rfl rfl ?_
              refine wa rfl rfl (wo_nil (thenW_n (wc_seq (wc_region (wm rfl rfl (wo_n rfl (nv_gtrF rfl rfl rfl (by first | assumption | decide | omega)) rfl rfl (wo_nil (thenW_n (wc_false rfl ?_)))))))))
              refine wc_skip (blockW_n (thenW_n (wc_region ?_)))
              refine wo_n rfl (nv_add rfl rfl rfl rfl (by first | decide | omega) (by first | decide | omega)) rfl rfl ?_
              refine wm rfl rfl (wo_nil ?_)
              refine ⟨l.length - (i + 1), by omega, i + 1, rfl, by omega, rfl, ?_, by omega⟩
              refine .cons rfl (.cons ?_ (.cons rfl (.cons rfl (.nil _))))
              rw [hsn]
              show some (V.int .i64 _) = some (V.int .i64 _)
              congr 2 <;> omega
          · have : i = l.length := by omega
            subst this
            rw [List.take_length] at hv
            have hnum2 : nOk l = true := by rw [hnum]; simp; omega
            refine wc_seq (wc_region (wo_n rfl (nv_lssF rfl rfl rfl (by first | assumption | decide | omega)) rfl rfl (wo_nil (thenW_n (wc_seq (wc_false rfl (wc_exit (thenW_x ?_))))))))
            refine blockW_x (thenW_n (wc_seq (wc_region (wm rfl rfl (wa rfl rfl (wa rfl rfl (wo_nil (thenW_n (wc_ret ?_)))))))))
            refine endW_many (by intro i hi; cases hi) rfl (rs := [.tmp 2, .tmp 3]) (.tmp rfl (.tmp rfl .nil)) (by simp) ?_
            exact ⟨rfl, _, by rw [hnum2], fun _ => by rw [List.take_length]⟩
  · have hd' : txt (l.takeWhile isDig) ≠ txt l := fun e => hd (txt_inj e)
    have hnum : nOk l = false := by
      have : l.all isDig = false := by
        rw [← Bool.not_eq_true]
        intro ha
        exact hd (by rw [tw_at isDig l l.length (Nat.le_refl _) (by rw [List.take_length]; exact ha) (fun c hc => by simp at hc), List.take_length])
      simp [nOk, this]
    refine ev_of (fun m => hL.no _ _ m (by decide)) Tryd.func43 rfl rfl ?_
    refine wc_seq (wc_region (wa rfl rfl (wa rfl rfl (wo_nil (thenW_n (wc_seq (wc_seq (wc_region (wm rfl rfl ?_)))))))))
    refine wo_call rfl rfl (by kernel_rfl) (hrun) rfl rfl ?_
    refine wm rfl rfl (wo_n rfl (nv_sneqT  rfl rfl rfl (by assumption)) rfl rfl (wm rfl rfl (wg rfl (wg rfl (wg rfl (wg rfl (wg rfl (wg rfl (wg rfl ?_)))))))))
    refine wg rfl (wp rfl rfl rfl (wo_nil (thenW_n (wc_true rfl (wc_seq (wc_region (wa rfl rfl (wa rfl rfl (wo_nil ?_)))))))))
    refine thenW_n (wc_ret (thenW_r ?_))
    refine endW_many (by intro i hi; cases hi) rfl (rs := [.tmp 2, .tmp 3]) (.tmp rfl (.tmp rfl .nil)) (by simp) ?_
    exact ⟨rfl, _, by rw [hnum], fun h => by rw [hnum] at h; cases h⟩
theorem nameMay_spec (hg : Good m.gl) (l : List UInt8) (hl : l.length ≤ 4096) : ∃ m', Ev Tryd.prog xb ext 45 [vs (txt l)] m (.bool (nm l)) m' ∧ Fr F0 m m' := by
  refine ev_to ?_
  have hmm : (fun c => decide (c ∈ moreL)) = isMore := funext mem_more
  cases h : l with
  | nil =>
    have he : txt [] = txt [] := rfl
    refine ev_of (fun m => hL.no _ _ m (by decide)) Tryd.func45 rfl rfl ?_
    refine wc_seq (wc_region (wa rfl rfl (wo_nil (thenW_n (wc_seq (wc_region (wm rfl rfl (wo_n rfl (nv_sneqF (u := txt []) rfl rfl (show _ = some (vs (txt [])) by kernel_rfl) (by assumption)) rfl rfl (wm rfl rfl ?_)))))))))
    refine wg rfl (wg rfl (wg rfl (wq rfl rfl rfl (wm rfl rfl (wg rfl (wg rfl (wg rfl (wq rfl rfl rfl (wm rfl rfl ?_)))))))))
    refine wg rfl (wg rfl (wg rfl (wg rfl (wq rfl rfl rfl (wm rfl rfl (wg rfl (wg rfl (wg rfl (wq rfl rfl rfl ?_)))))))))
    refine wa rfl rfl (wo_nil (thenW_n (wc_ret ?_)))
    refine endW_ret rfl rfl ?_
    exact ⟨rfl, Fr.refl _ _⟩
  | cons c r =>
    rw [← h]
    have hne : txt l ≠ txt [] := fun e => by have := txt_inj e; rw [h] at this; cases this
    have hc0 : l[0]? = some c := by rw [h]; rfl
    have hnm : nm l = (decide (l.length ≤ 16) && (isLet c && (l.all isMore && !kw l))) := by rw [h]; rfl
    by_cases h16 : l.length ≤ 16
    · have ho := of_spec (m := m) hL lettersL c
      rw [mem_letters] at ho
      cases hlet : isLet c with
      | false =>
        rw [hlet] at ho
        refine ev_of (fun m => hL.no _ _ m (by decide)) Tryd.func45 rfl rfl ?_
        refine wc_seq (wc_region (wa rfl rfl (wo_nil (thenW_n (wc_seq (wc_region (wm rfl rfl (wo_n rfl (nv_sneqT (u := txt []) rfl rfl (show _ = some (vs (txt [])) by kernel_rfl) (by assumption)) rfl rfl (wm rfl rfl ?_)))))))))
        refine wm rfl rfl ?_
        first
          | refine wo_n rfl (nv_lenL rfl rfl rfl) rfl rfl ?_
          | refine wo_n rfl (nv_lenT rfl rfl rfl) rfl rfl ?_
        refine wo_n rfl (nv_leqT rfl rfl rfl (by first | assumption | decide | omega)) rfl rfl (wp rfl rfl rfl (wm rfl rfl (wm rfl rfl (wo_n rfl (nv_ixS (n := 0) rfl rfl rfl (by assumption)) rfl rfl ?_))))
        refine wo_call rfl rfl (by kernel_rfl) (ho) rfl rfl ?_
        refine wp rfl rfl rfl (wm rfl rfl (wg rfl (wg rfl (wg rfl (wg rfl (wq rfl rfl rfl (wm rfl rfl (wg rfl (wg rfl ?_)))))))))
        refine wg rfl (wq rfl rfl rfl (wa rfl rfl (wo_nil (thenW_n (wc_ret ?_)))))
        refine endW_ret rfl rfl ?_
        exact ⟨by rw [hnm, hlet]; simp, Fr.refl _ _⟩
      | true =>
        rw [hlet] at ho
        have hr := run_spec (m := m) hL l moreL hl
        rw [hmm] at hr
        by_cases hall : l.takeWhile isMore = l
        · have hall' : txt (l.takeWhile isMore) = txt l := by rw [hall]
          have hallb : l.all isMore = true := by rw [← hall]; exact List.all_takeWhile
          obtain ⟨mk, hk, fk⟩ := keyword_spec hL hg l
          refine ev_of (fun m => hL.no _ _ m (by decide)) Tryd.func45 rfl rfl ?_
          refine wc_seq (wc_region (wa rfl rfl (wo_nil (thenW_n (wc_seq (wc_region (wm rfl rfl (wo_n rfl (nv_sneqT (u := txt []) rfl rfl (show _ = some (vs (txt [])) by kernel_rfl) (by assumption)) rfl rfl (wm rfl rfl ?_)))))))))
          refine wm rfl rfl ?_
          first
            | refine wo_n rfl (nv_lenL rfl rfl rfl) rfl rfl ?_
            | refine wo_n rfl (nv_lenT rfl rfl rfl) rfl rfl ?_
          refine wo_n rfl (nv_leqT rfl rfl rfl (by first | assumption | decide | omega)) rfl rfl (wp rfl rfl rfl (wm rfl rfl (wm rfl rfl (wo_n rfl (nv_ixS (n := 0) rfl rfl rfl (by assumption)) rfl rfl ?_))))
          refine wo_call rfl rfl (by kernel_rfl) (ho) rfl rfl ?_
          refine wp rfl rfl rfl (wm rfl rfl (wm rfl rfl ?_))
          refine wo_call rfl rfl (by kernel_rfl) (hr) rfl rfl ?_
          refine wm rfl rfl (wo_n rfl (nv_seqlT  rfl rfl rfl (by assumption)) rfl rfl (wp rfl rfl rfl (wm rfl rfl (wm rfl rfl ?_))))
          refine wo_call rfl rfl (by kernel_rfl) (hk) rfl rfl ?_
          refine wo_n rfl (nv_not rfl rfl) rfl rfl (wp rfl rfl rfl (wa rfl rfl (wo_nil (thenW_n (wc_ret ?_)))))
          refine endW_ret rfl rfl ?_
          exact ⟨by rw [hnm, hlet, hallb]; simp [h16], fk⟩
        · have hall' : txt (l.takeWhile isMore) ≠ txt l := fun e => hall (txt_inj e)
          have hallb : l.all isMore = false := by
            rw [← Bool.not_eq_true]
            intro ha
            exact hall (by rw [tw_at isMore l l.length (Nat.le_refl _) (by rw [List.take_length]; exact ha) (fun c hc => by simp at hc), List.take_length])
          refine ev_of (fun m => hL.no _ _ m (by decide)) Tryd.func45 rfl rfl ?_
          refine wc_seq (wc_region (wa rfl rfl (wo_nil (thenW_n (wc_seq (wc_region (wm rfl rfl (wo_n rfl (nv_sneqT (u := txt []) rfl rfl (show _ = some (vs (txt [])) by kernel_rfl) (by assumption)) rfl rfl (wm rfl rfl ?_)))))))))
          refine wm rfl rfl ?_
          first
            | refine wo_n rfl (nv_lenL rfl rfl rfl) rfl rfl ?_
            | refine wo_n rfl (nv_lenT rfl rfl rfl) rfl rfl ?_
          refine wo_n rfl (nv_leqT rfl rfl rfl (by first | assumption | decide | omega)) rfl rfl (wp rfl rfl rfl (wm rfl rfl (wm rfl rfl (wo_n rfl (nv_ixS (n := 0) rfl rfl rfl (by assumption)) rfl rfl ?_))))
          refine wo_call rfl rfl (by kernel_rfl) (ho) rfl rfl ?_
          refine wp rfl rfl rfl (wm rfl rfl (wm rfl rfl ?_))
          refine wo_call rfl rfl (by kernel_rfl) (hr) rfl rfl ?_
          refine wm rfl rfl (wo_n rfl (nv_seqlF  rfl rfl rfl (by assumption)) rfl rfl (wp rfl rfl rfl (wm rfl rfl (wg rfl (wg rfl (wg rfl (wq rfl rfl rfl (wa rfl rfl (wo_nil ?_)))))))))
          refine thenW_n (wc_ret ?_)
          refine endW_ret rfl rfl ?_
          exact ⟨by rw [hnm, hallb]; simp, Fr.refl _ _⟩
    · refine ev_of (fun m => hL.no _ _ m (by decide)) Tryd.func45 rfl rfl ?_
      refine wc_seq (wc_region (wa rfl rfl (wo_nil (thenW_n (wc_seq (wc_region (wm rfl rfl (wo_n rfl (nv_sneqT (u := txt []) rfl rfl (show _ = some (vs (txt [])) by kernel_rfl) (by assumption)) rfl rfl (wm rfl rfl ?_)))))))))
      refine wm rfl rfl ?_
      first
        | refine wo_n rfl (nv_lenL rfl rfl rfl) rfl rfl ?_
        | refine wo_n rfl (nv_lenT rfl rfl rfl) rfl rfl ?_
      refine wo_n rfl (nv_leqF rfl rfl rfl (by first | assumption | decide | omega)) rfl rfl (wp rfl rfl rfl (wm rfl rfl (wg rfl (wg rfl (wg rfl (wq rfl rfl rfl (wm rfl rfl (wg rfl (wg rfl ?_)))))))))
      refine wg rfl (wg rfl (wq rfl rfl rfl (wm rfl rfl (wg rfl (wg rfl (wg rfl (wq rfl rfl rfl (wa rfl rfl (wo_nil ?_)))))))))
      refine thenW_n (wc_ret ?_)
      refine endW_ret rfl rfl ?_
      exact ⟨by rw [hnm]; simp [h16], Fr.refl _ _⟩
end
end Go.Proofs.YtppcjlplihiiiaaDoor.Sy

namespace Go.Proofs.YtppcjlplihiiiaaDoor.Sy
open Go Go.Ev Go.Ev.Pm Go.Ev.Lm
set_option linter.unusedVariables false
set_option linter.unusedSimpArgs false
set_option linter.unusedSectionVars false
section
variable {m : Mem} {xb : XB} {ext : CallF} (hL : LH xb ext)
include hL
theorem tail_spec (b : UInt8) : Ev Tryd.prog xb ext 53 [.int .u8 (b.toNat : Nat)] m (.bool (tailM b)) m := by
  refine ev_val ?_
  unfold tailM
  by_cases h1 : 128 ≤ b.toNat
  · by_cases h2 : b.toNat ≤ 191
    · refine ev_of (fun m => hL.no _ _ m (by decide)) Tryd.func53 rfl rfl ?_
      refine wc_seq (wc_region (wa rfl rfl (wo_nil (thenW_n (wc_seq (wc_region (wm rfl rfl (wo_n rfl (nv_geqT rfl rfl rfl (by first | assumption | decide | omega)) rfl rfl (wm rfl rfl ?_)))))))))
      refine wm rfl rfl (wo_n rfl (nv_leqT rfl rfl rfl (by first | assumption | decide | omega)) rfl rfl (wp rfl rfl rfl (wa rfl rfl (wo_nil (thenW_n (wc_ret ?_))))))
      refine endW_ret rfl rfl ?_
      exact ⟨rfl, by simp [h1, h2]⟩
    · refine ev_of (fun m => hL.no _ _ m (by decide)) Tryd.func53 rfl rfl ?_
      refine wc_seq (wc_region (wa rfl rfl (wo_nil (thenW_n (wc_seq (wc_region (wm rfl rfl (wo_n rfl (nv_geqT rfl rfl rfl (by first | assumption | decide | omega)) rfl rfl (wm rfl rfl ?_)))))))))
      refine wm rfl rfl (wo_n rfl (nv_leqF rfl rfl rfl (by first | assumption | decide | omega)) rfl rfl (wp rfl rfl rfl (wa rfl rfl (wo_nil (thenW_n (wc_ret ?_))))))
      refine endW_ret rfl rfl ?_
      exact ⟨rfl, by simp [h1, h2]⟩
  · refine ev_of (fun m => hL.no _ _ m (by decide)) Tryd.func53 rfl rfl ?_
    refine wc_seq (wc_region (wa rfl rfl (wo_nil (thenW_n (wc_seq (wc_region (wm rfl rfl (wo_n rfl (nv_geqF rfl rfl rfl (by first | assumption | decide | omega)) rfl rfl (wm rfl rfl ?_)))))))))
    refine wg rfl (wg rfl (wq rfl rfl rfl (wa rfl rfl (wo_nil (thenW_n (wc_ret ?_))))))
    refine endW_ret rfl rfl ?_
    exact ⟨rfl, by simp [h1]⟩
theorem lead_spec (b : UInt8) : ∃ lo hi : Nat, Ev Tryd.prog xb ext 52 [.int .u8 (b.toNat : Nat)] m (.tup [.int .i64 ((leadM b.toNat).1 : Nat), .int .u8 (lo : Nat), .int .u8 (hi : Nat)]) m ∧ leadM b.toNat = ((leadM b.toNat).1, lo, hi) := by
  suffices hh : ∃ v m', Ev Tryd.prog xb ext 52 [.int .u8 (b.toNat : Nat)] m v m' ∧ (m' = m ∧ ∃ k lo hi : Nat, v = .tup [.int .i64 (k : Nat), .int .u8 (lo : Nat), .int .u8 (hi : Nat)] ∧ leadM b.toNat = (k, lo, hi)) by
    obtain ⟨v, m', h1, rfl, k, lo, hi, rfl, h2⟩ := hh
    exact ⟨lo, hi, by rw [h2]; exact h1, by rw [h2]⟩
  generalize b.toNat = n
  by_cases h1 : n < 128
  · refine ev_of (fun m => hL.no _ _ m (by decide)) Tryd.func52 rfl rfl ?_
    refine wc_seq (wc_region (wa rfl rfl (wa rfl rfl (wa rfl rfl (wo_nil (thenW_n (wc_seq (wc_region (wa rfl rfl ?_)))))))))
    refine wa rfl rfl (wo_nil (thenW_n (wc_seq (wc_block (wc_seq (wc_block (wc_seq (wc_block (wc_seq ?_)))))))))
    refine wc_block (wc_seq (wc_block (wc_seq (wc_block (wc_seq (wc_block (wc_seq (wc_block (wc_seq ?_)))))))))
    refine wc_block (wc_seq (wc_block (wc_seq (wc_seq (wc_seq (wc_region (wm rfl rfl (wo_n rfl (nv_lssT rfl rfl rfl (by first | assumption | decide | omega)) rfl rfl (wa rfl rfl ?_)))))))))
    refine wo_nil (thenW_n (wc_true rfl (wc_exit (thenW_x (thenW_x (blockW_x (thenW_n (wc_seq (wc_seq ?_)))))))))
    refine wc_region (wa rfl rfl (wa rfl rfl (wa rfl rfl (wo_nil (thenW_n (wc_ret (thenW_r (blockW_r (thenW_r ?_)))))))))
    refine blockW_r (thenW_r (blockW_r (thenW_r (blockW_r (thenW_r (blockW_r (thenW_r (blockW_r (thenW_r ?_)))))))))
    refine blockW_r (thenW_r (blockW_r (thenW_r (blockW_r (thenW_r ?_)))))
    refine endW_many (by intro i hi; cases hi) rfl (rs := [.tmp 2, .tmp 3, .tmp 4]) (.tmp rfl (.tmp rfl (.tmp rfl .nil))) (by simp) ?_
    exact ⟨rfl, 1, 0, 0, rfl, by simp [leadM, h1]⟩
  by_cases h2 : n < 194
  · refine ev_of (fun m => hL.no _ _ m (by decide)) Tryd.func52 rfl rfl ?_
    refine wc_seq (wc_region (wa rfl rfl (wa rfl rfl (wa rfl rfl (wo_nil (thenW_n (wc_seq (wc_region (wa rfl rfl ?_)))))))))
    refine wa rfl rfl (wo_nil (thenW_n (wc_seq (wc_block (wc_seq (wc_block (wc_seq (wc_block (wc_seq ?_)))))))))
    refine wc_block (wc_seq (wc_block (wc_seq (wc_block (wc_seq (wc_block (wc_seq (wc_block (wc_seq ?_)))))))))
    refine wc_block (wc_seq (wc_block (wc_seq (wc_seq (wc_seq (wc_region (wm rfl rfl (wo_n rfl (nv_lssF rfl rfl rfl (by first | assumption | decide | omega)) rfl rfl (wa rfl rfl ?_)))))))))
    refine wo_nil (thenW_n (wc_false rfl (wc_skip (thenW_n (wc_seq (wc_seq (wc_region (wm rfl rfl (wo_n rfl (nv_lssT rfl rfl rfl (by first | assumption | decide | omega)) rfl rfl ?_)))))))))
    refine wm rfl rfl (wg rfl (wg rfl (wp rfl rfl rfl (wa rfl rfl (wo_nil (thenW_n (wc_true rfl (wc_exit (thenW_x ?_)))))))))
    refine thenW_x ?_
    refine blockW_y rfl ?_
    refine thenW_x (blockW_x (thenW_n (wc_seq (wc_seq (wc_region (wa rfl rfl (wa rfl rfl (wa rfl rfl (wo_nil ?_)))))))))
    refine thenW_n (wc_ret (thenW_r (blockW_r (thenW_r (blockW_r (thenW_r (blockW_r (thenW_r (blockW_r ?_)))))))))
    refine thenW_r (blockW_r (thenW_r (blockW_r (thenW_r (blockW_r (thenW_r (blockW_r (thenW_r ?_))))))))
    refine endW_many (by intro i hi; cases hi) rfl (rs := [.tmp 2, .tmp 3, .tmp 4]) (.tmp rfl (.tmp rfl (.tmp rfl .nil))) (by simp) ?_
    exact ⟨rfl, 0, 0, 0, rfl, by simp [leadM, h1, h2]⟩
  by_cases h3 : 244 < n
  · refine ev_of (fun m => hL.no _ _ m (by decide)) Tryd.func52 rfl rfl ?_
    refine wc_seq (wc_region (wa rfl rfl (wa rfl rfl (wa rfl rfl (wo_nil (thenW_n (wc_seq (wc_region (wa rfl rfl ?_)))))))))
    refine wa rfl rfl (wo_nil (thenW_n (wc_seq (wc_block (wc_seq (wc_block (wc_seq (wc_block (wc_seq ?_)))))))))
    refine wc_block (wc_seq (wc_block (wc_seq (wc_block (wc_seq (wc_block (wc_seq (wc_block (wc_seq ?_)))))))))
    refine wc_block (wc_seq (wc_block (wc_seq (wc_seq (wc_seq (wc_region (wm rfl rfl (wo_n rfl (nv_lssF rfl rfl rfl (by first | assumption | decide | omega)) rfl rfl (wa rfl rfl ?_)))))))))
    refine wo_nil (thenW_n (wc_false rfl (wc_skip (thenW_n (wc_seq (wc_seq (wc_region (wm rfl rfl (wo_n rfl (nv_lssF rfl rfl rfl (by first | assumption | decide | omega)) rfl rfl ?_)))))))))
    refine wm rfl rfl (wm rfl rfl (wo_n rfl (nv_gtrT rfl rfl rfl (by first | assumption | decide | omega)) rfl rfl (wq rfl rfl rfl (wa rfl rfl (wo_nil (thenW_n (wc_true rfl (wc_exit (thenW_x ?_)))))))))
    refine thenW_x ?_
    refine blockW_y rfl ?_
    refine thenW_x (blockW_x (thenW_n (wc_seq (wc_seq (wc_region (wa rfl rfl (wa rfl rfl (wa rfl rfl (wo_nil ?_)))))))))
    refine thenW_n (wc_ret (thenW_r (blockW_r (thenW_r (blockW_r (thenW_r (blockW_r (thenW_r (blockW_r ?_)))))))))
    refine thenW_r (blockW_r (thenW_r (blockW_r (thenW_r (blockW_r (thenW_r (blockW_r (thenW_r ?_))))))))
    refine endW_many (by intro i hi; cases hi) rfl (rs := [.tmp 2, .tmp 3, .tmp 4]) (.tmp rfl (.tmp rfl (.tmp rfl .nil))) (by simp) ?_
    exact ⟨rfl, 0, 0, 0, rfl, by simp [leadM, h1, h2, h3]⟩
  by_cases h4 : n < 224
  · refine ev_of (fun m => hL.no _ _ m (by decide)) Tryd.func52 rfl rfl ?_
    refine wc_seq (wc_region (wa rfl rfl (wa rfl rfl (wa rfl rfl (wo_nil (thenW_n (wc_seq (wc_region (wa rfl rfl ?_)))))))))
    refine wa rfl rfl (wo_nil (thenW_n (wc_seq (wc_block (wc_seq (wc_block (wc_seq (wc_block (wc_seq ?_)))))))))
    refine wc_block (wc_seq (wc_block (wc_seq (wc_block (wc_seq (wc_block (wc_seq (wc_block (wc_seq ?_)))))))))
    refine wc_block (wc_seq (wc_block (wc_seq (wc_seq (wc_seq (wc_region (wm rfl rfl (wo_n rfl (nv_lssF rfl rfl rfl (by first | assumption | decide | omega)) rfl rfl (wa rfl rfl ?_)))))))))
    refine wo_nil (thenW_n (wc_false rfl (wc_skip (thenW_n (wc_seq (wc_seq (wc_region (wm rfl rfl (wo_n rfl (nv_lssF rfl rfl rfl (by first | assumption | decide | omega)) rfl rfl ?_)))))))))
    refine wm rfl rfl (wm rfl rfl (wo_n rfl (nv_gtrF rfl rfl rfl (by first | assumption | decide | omega)) rfl rfl (wq rfl rfl rfl (wa rfl rfl (wo_nil (thenW_n (wc_false rfl (wc_skip (thenW_n ?_)))))))))
    refine wc_seq (wc_seq (wc_region (wm rfl rfl (wo_n rfl (nv_lssT rfl rfl rfl (by first | assumption | decide | omega)) rfl rfl (wa rfl rfl (wo_nil (thenW_n (wc_true rfl (wc_exit ?_)))))))))
    refine thenW_x (thenW_x ?_)
    refine blockW_y rfl ?_
    refine thenW_x ?_
    refine blockW_y rfl ?_
    refine thenW_x (blockW_x (thenW_n (wc_seq (wc_seq (wc_region (wm rfl rfl (wm rfl rfl (wa rfl rfl (wa rfl rfl ?_)))))))))
    refine wa rfl rfl (wo_nil (thenW_n (wc_ret (thenW_r (blockW_r (thenW_r (blockW_r (thenW_r (blockW_r ?_)))))))))
    refine thenW_r (blockW_r (thenW_r (blockW_r (thenW_r (blockW_r (thenW_r (blockW_r (thenW_r ?_))))))))
    refine endW_many (by intro i hi; cases hi) rfl (rs := [.tmp 2, .tmp 3, .tmp 4]) (.tmp rfl (.tmp rfl (.tmp rfl .nil))) (by simp) ?_
    exact ⟨rfl, 2, 128, 191, rfl, by simp [leadM, h1, h2, h3, h4]⟩
  by_cases h5 : n = 224
  · refine ev_of (fun m => hL.no _ _ m (by decide)) Tryd.func52 rfl rfl ?_
    refine wc_seq (wc_region (wa rfl rfl (wa rfl rfl (wa rfl rfl (wo_nil (thenW_n (wc_seq (wc_region (wa rfl rfl ?_)))))))))
    refine wa rfl rfl (wo_nil (thenW_n (wc_seq (wc_block (wc_seq (wc_block (wc_seq (wc_block (wc_seq ?_)))))))))
    refine wc_block (wc_seq (wc_block (wc_seq (wc_block (wc_seq (wc_block (wc_seq (wc_block (wc_seq ?_)))))))))
    refine wc_block (wc_seq (wc_block (wc_seq (wc_seq (wc_seq (wc_region (wm rfl rfl (wo_n rfl (nv_lssF rfl rfl rfl (by first | assumption | decide | omega)) rfl rfl (wa rfl rfl ?_)))))))))
    refine wo_nil (thenW_n (wc_false rfl (wc_skip (thenW_n (wc_seq (wc_seq (wc_region (wm rfl rfl (wo_n rfl (nv_lssF rfl rfl rfl (by first | assumption | decide | omega)) rfl rfl ?_)))))))))
    refine wm rfl rfl (wm rfl rfl (wo_n rfl (nv_gtrF rfl rfl rfl (by first | assumption | decide | omega)) rfl rfl (wq rfl rfl rfl (wa rfl rfl (wo_nil (thenW_n (wc_false rfl (wc_skip (thenW_n ?_)))))))))
    refine wc_seq (wc_seq (wc_region (wm rfl rfl (wo_n rfl (nv_lssF rfl rfl rfl (by first | assumption | decide | omega)) rfl rfl (wa rfl rfl (wo_nil (thenW_n (wc_false rfl (wc_skip ?_)))))))))
    refine thenW_n (wc_seq (wc_seq (wc_region (wm rfl rfl (wo_n rfl (nv_eqlT rfl rfl rfl (by first | assumption | decide | omega)) rfl rfl (wa rfl rfl (wo_nil (thenW_n (wc_true rfl ?_)))))))))
    refine wc_exit (thenW_x (thenW_x ?_))
    refine blockW_y rfl ?_
    refine thenW_x ?_
    refine blockW_y rfl ?_
    refine thenW_x ?_
    refine blockW_y rfl ?_
    refine thenW_x (blockW_x (thenW_n (wc_region (wa rfl rfl (wo_nil (blockW_n (thenW_n (wc_seq (wc_seq ?_)))))))))
    refine wc_region (wm rfl rfl (wm rfl rfl (wa rfl rfl (wa rfl rfl (wa rfl rfl (wo_nil (thenW_n (wc_ret (thenW_r ?_)))))))))
    refine blockW_r (thenW_r (blockW_r (thenW_r (blockW_r (thenW_r (blockW_r (thenW_r (blockW_r (thenW_r ?_)))))))))
    refine endW_many (by intro i hi; cases hi) rfl (rs := [.tmp 2, .tmp 3, .tmp 4]) (.tmp rfl (.tmp rfl (.tmp rfl .nil))) (by simp) ?_
    exact ⟨rfl, 3, 160, 191, rfl, by simp [leadM, h5]⟩
  by_cases h6 : n < 237
  · refine ev_of (fun m => hL.no _ _ m (by decide)) Tryd.func52 rfl rfl ?_
    refine wc_seq (wc_region (wa rfl rfl (wa rfl rfl (wa rfl rfl (wo_nil (thenW_n (wc_seq (wc_region (wa rfl rfl ?_)))))))))
    refine wa rfl rfl (wo_nil (thenW_n (wc_seq (wc_block (wc_seq (wc_block (wc_seq (wc_block (wc_seq ?_)))))))))
    refine wc_block (wc_seq (wc_block (wc_seq (wc_block (wc_seq (wc_block (wc_seq (wc_block (wc_seq ?_)))))))))
    refine wc_block (wc_seq (wc_block (wc_seq (wc_seq (wc_seq (wc_region (wm rfl rfl (wo_n rfl (nv_lssF rfl rfl rfl (by first | assumption | decide | omega)) rfl rfl (wa rfl rfl ?_)))))))))
    refine wo_nil (thenW_n (wc_false rfl (wc_skip (thenW_n (wc_seq (wc_seq (wc_region (wm rfl rfl (wo_n rfl (nv_lssF rfl rfl rfl (by first | assumption | decide | omega)) rfl rfl ?_)))))))))
    refine wm rfl rfl (wm rfl rfl (wo_n rfl (nv_gtrF rfl rfl rfl (by first | assumption | decide | omega)) rfl rfl (wq rfl rfl rfl (wa rfl rfl (wo_nil (thenW_n (wc_false rfl (wc_skip (thenW_n ?_)))))))))
    refine wc_seq (wc_seq (wc_region (wm rfl rfl (wo_n rfl (nv_lssF rfl rfl rfl (by first | assumption | decide | omega)) rfl rfl (wa rfl rfl (wo_nil (thenW_n (wc_false rfl (wc_skip ?_)))))))))
    refine thenW_n (wc_seq (wc_seq (wc_region (wm rfl rfl (wo_n rfl (nv_eqlF rfl rfl rfl (by first | assumption | decide | omega)) rfl rfl (wa rfl rfl (wo_nil (thenW_n (wc_false rfl ?_)))))))))
    refine wc_skip (thenW_n (wc_seq (wc_seq (wc_region (wm rfl rfl (wo_n rfl (nv_lssT rfl rfl rfl (by first | assumption | decide | omega)) rfl rfl (wa rfl rfl (wo_nil (thenW_n ?_)))))))))
    refine wc_true rfl (wc_exit (thenW_x (thenW_x ?_)))
    refine blockW_y rfl ?_
    refine thenW_x ?_
    refine blockW_y rfl ?_
    refine thenW_x ?_
    refine blockW_y rfl ?_
    refine thenW_x ?_
    refine blockW_y rfl ?_
    refine thenW_x (blockW_x (thenW_n (wc_seq (wc_seq (wc_region (wm rfl rfl (wm rfl rfl (wa rfl rfl (wa rfl rfl ?_)))))))))
    refine wa rfl rfl (wo_nil (thenW_n (wc_ret (thenW_r (blockW_r (thenW_r (blockW_r (thenW_r (blockW_r ?_)))))))))
    refine thenW_r (blockW_r (thenW_r (blockW_r (thenW_r ?_))))
    refine endW_many (by intro i hi; cases hi) rfl (rs := [.tmp 2, .tmp 3, .tmp 4]) (.tmp rfl (.tmp rfl (.tmp rfl .nil))) (by simp) ?_
    exact ⟨rfl, 3, 128, 191, rfl, by simp [leadM, h1, h2, h3, h4, h5, h6]⟩
  by_cases h7 : n = 237
  · refine ev_of (fun m => hL.no _ _ m (by decide)) Tryd.func52 rfl rfl ?_
    refine wc_seq (wc_region (wa rfl rfl (wa rfl rfl (wa rfl rfl (wo_nil (thenW_n (wc_seq (wc_region (wa rfl rfl ?_)))))))))
    refine wa rfl rfl (wo_nil (thenW_n (wc_seq (wc_block (wc_seq (wc_block (wc_seq (wc_block (wc_seq ?_)))))))))
    refine wc_block (wc_seq (wc_block (wc_seq (wc_block (wc_seq (wc_block (wc_seq (wc_block (wc_seq ?_)))))))))
    refine wc_block (wc_seq (wc_block (wc_seq (wc_seq (wc_seq (wc_region (wm rfl rfl (wo_n rfl (nv_lssF rfl rfl rfl (by first | assumption | decide | omega)) rfl rfl (wa rfl rfl ?_)))))))))
    refine wo_nil (thenW_n (wc_false rfl (wc_skip (thenW_n (wc_seq (wc_seq (wc_region (wm rfl rfl (wo_n rfl (nv_lssF rfl rfl rfl (by first | assumption | decide | omega)) rfl rfl ?_)))))))))
    refine wm rfl rfl (wm rfl rfl (wo_n rfl (nv_gtrF rfl rfl rfl (by first | assumption | decide | omega)) rfl rfl (wq rfl rfl rfl (wa rfl rfl (wo_nil (thenW_n (wc_false rfl (wc_skip (thenW_n ?_)))))))))
    refine wc_seq (wc_seq (wc_region (wm rfl rfl (wo_n rfl (nv_lssF rfl rfl rfl (by first | assumption | decide | omega)) rfl rfl (wa rfl rfl (wo_nil (thenW_n (wc_false rfl (wc_skip ?_)))))))))
    refine thenW_n (wc_seq (wc_seq (wc_region (wm rfl rfl (wo_n rfl (nv_eqlF rfl rfl rfl (by first | assumption | decide | omega)) rfl rfl (wa rfl rfl (wo_nil (thenW_n (wc_false rfl ?_)))))))))
    refine wc_skip (thenW_n (wc_seq (wc_seq (wc_region (wm rfl rfl (wo_n rfl (nv_lssF rfl rfl rfl (by first | assumption | decide | omega)) rfl rfl (wa rfl rfl (wo_nil (thenW_n ?_)))))))))
    refine wc_false rfl (wc_skip (thenW_n (wc_seq (wc_seq (wc_region (wm rfl rfl (wo_n rfl (nv_eqlT rfl rfl rfl (by first | assumption | decide | omega)) rfl rfl (wa rfl rfl (wo_nil ?_)))))))))
    refine thenW_n (wc_true rfl (wc_exit (thenW_x (thenW_x ?_))))
    refine blockW_y rfl ?_
    refine thenW_x ?_
    refine blockW_y rfl ?_
    refine thenW_x ?_
    refine blockW_y rfl ?_
    refine thenW_x ?_
    refine blockW_y rfl ?_
    refine thenW_x ?_
    refine blockW_y rfl ?_
    refine thenW_x (blockW_x (thenW_n (wc_region (wa rfl rfl (wo_nil (blockW_n (thenW_n (wc_seq (wc_seq ?_)))))))))
    refine wc_region (wm rfl rfl (wm rfl rfl (wa rfl rfl (wa rfl rfl (wa rfl rfl (wo_nil (thenW_n (wc_ret (thenW_r ?_)))))))))
    refine blockW_r (thenW_r (blockW_r (thenW_r (blockW_r (thenW_r ?_)))))
    refine endW_many (by intro i hi; cases hi) rfl (rs := [.tmp 2, .tmp 3, .tmp 4]) (.tmp rfl (.tmp rfl (.tmp rfl .nil))) (by simp) ?_
    exact ⟨rfl, 3, 128, 159, rfl, by simp [leadM, h7]⟩
  by_cases h8 : n < 240
  · refine ev_of (fun m => hL.no _ _ m (by decide)) Tryd.func52 rfl rfl ?_
    refine wc_seq (wc_region (wa rfl rfl (wa rfl rfl (wa rfl rfl (wo_nil (thenW_n (wc_seq (wc_region (wa rfl rfl ?_)))))))))
    refine wa rfl rfl (wo_nil (thenW_n (wc_seq (wc_block (wc_seq (wc_block (wc_seq (wc_block (wc_seq ?_)))))))))
    refine wc_block (wc_seq (wc_block (wc_seq (wc_block (wc_seq (wc_block (wc_seq (wc_block (wc_seq ?_)))))))))
    refine wc_block (wc_seq (wc_block (wc_seq (wc_seq (wc_seq (wc_region (wm rfl rfl (wo_n rfl (nv_lssF rfl rfl rfl (by first | assumption | decide | omega)) rfl rfl (wa rfl rfl ?_)))))))))
    refine wo_nil (thenW_n (wc_false rfl (wc_skip (thenW_n (wc_seq (wc_seq (wc_region (wm rfl rfl (wo_n rfl (nv_lssF rfl rfl rfl (by first | assumption | decide | omega)) rfl rfl ?_)))))))))
    refine wm rfl rfl (wm rfl rfl (wo_n rfl (nv_gtrF rfl rfl rfl (by first | assumption | decide | omega)) rfl rfl (wq rfl rfl rfl (wa rfl rfl (wo_nil (thenW_n (wc_false rfl (wc_skip (thenW_n ?_)))))))))
    refine wc_seq (wc_seq (wc_region (wm rfl rfl (wo_n rfl (nv_lssF rfl rfl rfl (by first | assumption | decide | omega)) rfl rfl (wa rfl rfl (wo_nil (thenW_n (wc_false rfl (wc_skip ?_)))))))))
    refine thenW_n (wc_seq (wc_seq (wc_region (wm rfl rfl (wo_n rfl (nv_eqlF rfl rfl rfl (by first | assumption | decide | omega)) rfl rfl (wa rfl rfl (wo_nil (thenW_n (wc_false rfl ?_)))))))))
    refine wc_skip (thenW_n (wc_seq (wc_seq (wc_region (wm rfl rfl (wo_n rfl (nv_lssF rfl rfl rfl (by first | assumption | decide | omega)) rfl rfl (wa rfl rfl (wo_nil (thenW_n ?_)))))))))
    refine wc_false rfl (wc_skip (thenW_n (wc_seq (wc_seq (wc_region (wm rfl rfl (wo_n rfl (nv_eqlF rfl rfl rfl (by first | assumption | decide | omega)) rfl rfl (wa rfl rfl (wo_nil ?_)))))))))
    refine thenW_n (wc_false rfl (wc_skip (thenW_n (wc_seq (wc_seq (wc_region (wm rfl rfl (wo_n rfl (nv_lssT rfl rfl rfl (by first | assumption | decide | omega)) rfl rfl (wa rfl rfl ?_)))))))))
    refine wo_nil (thenW_n (wc_true rfl (wc_exit (thenW_x (thenW_x ?_)))))
    refine blockW_y rfl ?_
    refine thenW_x ?_
    refine blockW_y rfl ?_
    refine thenW_x ?_
    refine blockW_y rfl ?_
    refine thenW_x ?_
    refine blockW_y rfl ?_
    refine thenW_x ?_
    refine blockW_y rfl ?_
    refine thenW_x ?_
    refine blockW_y rfl ?_
    refine thenW_x (blockW_x (thenW_n (wc_seq (wc_seq (wc_region (wm rfl rfl (wm rfl rfl (wa rfl rfl (wa rfl rfl ?_)))))))))
    refine wa rfl rfl (wo_nil (thenW_n (wc_ret (thenW_r (blockW_r (thenW_r (blockW_r (thenW_r (blockW_r ?_)))))))))
    refine thenW_r ?_
    refine endW_many (by intro i hi; cases hi) rfl (rs := [.tmp 2, .tmp 3, .tmp 4]) (.tmp rfl (.tmp rfl (.tmp rfl .nil))) (by simp) ?_
    exact ⟨rfl, 3, 128, 191, rfl, by simp [leadM, h1, h2, h3, h4, h5, h6, h7, h8]⟩
  by_cases h9 : n = 240
  · refine ev_of (fun m => hL.no _ _ m (by decide)) Tryd.func52 rfl rfl ?_
    refine wc_seq (wc_region (wa rfl rfl (wa rfl rfl (wa rfl rfl (wo_nil (thenW_n (wc_seq (wc_region (wa rfl rfl ?_)))))))))
    refine wa rfl rfl (wo_nil (thenW_n (wc_seq (wc_block (wc_seq (wc_block (wc_seq (wc_block (wc_seq ?_)))))))))
    refine wc_block (wc_seq (wc_block (wc_seq (wc_block (wc_seq (wc_block (wc_seq (wc_block (wc_seq ?_)))))))))
    refine wc_block (wc_seq (wc_block (wc_seq (wc_seq (wc_seq (wc_region (wm rfl rfl (wo_n rfl (nv_lssF rfl rfl rfl (by first | assumption | decide | omega)) rfl rfl (wa rfl rfl ?_)))))))))
    refine wo_nil (thenW_n (wc_false rfl (wc_skip (thenW_n (wc_seq (wc_seq (wc_region (wm rfl rfl (wo_n rfl (nv_lssF rfl rfl rfl (by first | assumption | decide | omega)) rfl rfl ?_)))))))))
    refine wm rfl rfl (wm rfl rfl (wo_n rfl (nv_gtrF rfl rfl rfl (by first | assumption | decide | omega)) rfl rfl (wq rfl rfl rfl (wa rfl rfl (wo_nil (thenW_n (wc_false rfl (wc_skip (thenW_n ?_)))))))))
    refine wc_seq (wc_seq (wc_region (wm rfl rfl (wo_n rfl (nv_lssF rfl rfl rfl (by first | assumption | decide | omega)) rfl rfl (wa rfl rfl (wo_nil (thenW_n (wc_false rfl (wc_skip ?_)))))))))
    refine thenW_n (wc_seq (wc_seq (wc_region (wm rfl rfl (wo_n rfl (nv_eqlF rfl rfl rfl (by first | assumption | decide | omega)) rfl rfl (wa rfl rfl (wo_nil (thenW_n (wc_false rfl ?_)))))))))
    refine wc_skip (thenW_n (wc_seq (wc_seq (wc_region (wm rfl rfl (wo_n rfl (nv_lssF rfl rfl rfl (by first | assumption | decide | omega)) rfl rfl (wa rfl rfl (wo_nil (thenW_n ?_)))))))))
    refine wc_false rfl (wc_skip (thenW_n (wc_seq (wc_seq (wc_region (wm rfl rfl (wo_n rfl (nv_eqlF rfl rfl rfl (by first | assumption | decide | omega)) rfl rfl (wa rfl rfl (wo_nil ?_)))))))))
    refine thenW_n (wc_false rfl (wc_skip (thenW_n (wc_seq (wc_seq (wc_region (wm rfl rfl (wo_n rfl (nv_lssF rfl rfl rfl (by first | assumption | decide | omega)) rfl rfl (wa rfl rfl ?_)))))))))
    refine wo_nil (thenW_n (wc_false rfl (wc_skip (thenW_n (wc_seq (wc_seq (wc_region (wm rfl rfl (wo_n rfl (nv_eqlT rfl rfl rfl (by first | assumption | decide | omega)) rfl rfl ?_)))))))))
    refine wa rfl rfl (wo_nil (thenW_n (wc_true rfl (wc_exit (thenW_x (thenW_x ?_))))))
    refine blockW_y rfl ?_
    refine thenW_x ?_
    refine blockW_y rfl ?_
    refine thenW_x ?_
    refine blockW_y rfl ?_
    refine thenW_x ?_
    refine blockW_y rfl ?_
    refine thenW_x ?_
    refine blockW_y rfl ?_
    refine thenW_x ?_
    refine blockW_y rfl ?_
    refine thenW_x ?_
    refine blockW_y rfl ?_
    refine thenW_x (blockW_x (thenW_n (wc_seq (wc_region (wa rfl rfl (wo_nil (thenW_n (wc_exit ?_))))))))
    refine blockW_y rfl ?_
    refine thenW_x (blockW_x (thenW_n (wc_seq (wc_region (wm rfl rfl (wm rfl rfl (wa rfl rfl (wa rfl rfl (wa rfl rfl ?_)))))))))
    refine wo_nil (thenW_n (wc_ret ?_))
    refine endW_many (by intro i hi; cases hi) rfl (rs := [.tmp 2, .tmp 3, .tmp 4]) (.tmp rfl (.tmp rfl (.tmp rfl .nil))) (by simp) ?_
    exact ⟨rfl, 4, 144, 191, rfl, by simp [leadM, h9]⟩
  by_cases h10 : n = 244
  · refine ev_of (fun m => hL.no _ _ m (by decide)) Tryd.func52 rfl rfl ?_
    refine wc_seq (wc_region (wa rfl rfl (wa rfl rfl (wa rfl rfl (wo_nil (thenW_n (wc_seq (wc_region (wa rfl rfl ?_)))))))))
    refine wa rfl rfl (wo_nil (thenW_n (wc_seq (wc_block (wc_seq (wc_block (wc_seq (wc_block (wc_seq ?_)))))))))
    refine wc_block (wc_seq (wc_block (wc_seq (wc_block (wc_seq (wc_block (wc_seq (wc_block (wc_seq ?_)))))))))
    refine wc_block (wc_seq (wc_block (wc_seq (wc_seq (wc_seq (wc_region (wm rfl rfl (wo_n rfl (nv_lssF rfl rfl rfl (by first | assumption | decide | omega)) rfl rfl (wa rfl rfl ?_)))))))))
    refine wo_nil (thenW_n (wc_false rfl (wc_skip (thenW_n (wc_seq (wc_seq (wc_region (wm rfl rfl (wo_n rfl (nv_lssF rfl rfl rfl (by first | assumption | decide | omega)) rfl rfl ?_)))))))))
    refine wm rfl rfl (wm rfl rfl (wo_n rfl (nv_gtrF rfl rfl rfl (by first | assumption | decide | omega)) rfl rfl (wq rfl rfl rfl (wa rfl rfl (wo_nil (thenW_n (wc_false rfl (wc_skip (thenW_n ?_)))))))))
    refine wc_seq (wc_seq (wc_region (wm rfl rfl (wo_n rfl (nv_lssF rfl rfl rfl (by first | assumption | decide | omega)) rfl rfl (wa rfl rfl (wo_nil (thenW_n (wc_false rfl (wc_skip ?_)))))))))
    refine thenW_n (wc_seq (wc_seq (wc_region (wm rfl rfl (wo_n rfl (nv_eqlF rfl rfl rfl (by first | assumption | decide | omega)) rfl rfl (wa rfl rfl (wo_nil (thenW_n (wc_false rfl ?_)))))))))
    refine wc_skip (thenW_n (wc_seq (wc_seq (wc_region (wm rfl rfl (wo_n rfl (nv_lssF rfl rfl rfl (by first | assumption | decide | omega)) rfl rfl (wa rfl rfl (wo_nil (thenW_n ?_)))))))))
    refine wc_false rfl (wc_skip (thenW_n (wc_seq (wc_seq (wc_region (wm rfl rfl (wo_n rfl (nv_eqlF rfl rfl rfl (by first | assumption | decide | omega)) rfl rfl (wa rfl rfl (wo_nil ?_)))))))))
    refine thenW_n (wc_false rfl (wc_skip (thenW_n (wc_seq (wc_seq (wc_region (wm rfl rfl (wo_n rfl (nv_lssF rfl rfl rfl (by first | assumption | decide | omega)) rfl rfl (wa rfl rfl ?_)))))))))
    refine wo_nil (thenW_n (wc_false rfl (wc_skip (thenW_n (wc_seq (wc_seq (wc_region (wm rfl rfl (wo_n rfl (nv_eqlF rfl rfl rfl (by first | assumption | decide | omega)) rfl rfl ?_)))))))))
    refine wa rfl rfl (wo_nil (thenW_n (wc_false rfl (wc_skip (thenW_n (wc_seq (wc_region (wm rfl rfl (wo_n rfl (nv_eqlT rfl rfl rfl (by first | assumption | decide | omega)) rfl rfl ?_)))))))))
    refine wa rfl rfl (wo_nil (thenW_n (wc_true rfl (wc_exit (thenW_x ?_)))))
    refine blockW_y rfl ?_
    refine thenW_x ?_
    refine blockW_y rfl ?_
    refine thenW_x ?_
    refine blockW_y rfl ?_
    refine thenW_x ?_
    refine blockW_y rfl ?_
    refine thenW_x ?_
    refine blockW_y rfl ?_
    refine thenW_x ?_
    refine blockW_y rfl ?_
    refine thenW_x ?_
    refine blockW_y rfl ?_
    refine thenW_x ?_
    refine blockW_y rfl ?_
    refine thenW_x (blockW_x (thenW_n (wc_seq (wc_region (wa rfl rfl (wo_nil (thenW_n (wc_exit (blockW_x ?_)))))))))
    refine thenW_n (wc_seq (wc_region (wm rfl rfl (wm rfl rfl (wa rfl rfl (wa rfl rfl (wa rfl rfl (wo_nil (thenW_n ?_)))))))))
    refine wc_ret ?_
    refine endW_many (by intro i hi; cases hi) rfl (rs := [.tmp 2, .tmp 3, .tmp 4]) (.tmp rfl (.tmp rfl (.tmp rfl .nil))) (by simp) ?_
    exact ⟨rfl, 4, 128, 143, rfl, by simp [leadM, h10]⟩
  · refine ev_of (fun m => hL.no _ _ m (by decide)) Tryd.func52 rfl rfl ?_
    refine wc_seq (wc_region (wa rfl rfl (wa rfl rfl (wa rfl rfl (wo_nil (thenW_n (wc_seq (wc_region (wa rfl rfl ?_)))))))))
    refine wa rfl rfl (wo_nil (thenW_n (wc_seq (wc_block (wc_seq (wc_block (wc_seq (wc_block (wc_seq ?_)))))))))
    refine wc_block (wc_seq (wc_block (wc_seq (wc_block (wc_seq (wc_block (wc_seq (wc_block (wc_seq ?_)))))))))
    refine wc_block (wc_seq (wc_block (wc_seq (wc_seq (wc_seq (wc_region (wm rfl rfl (wo_n rfl (nv_lssF rfl rfl rfl (by first | assumption | decide | omega)) rfl rfl (wa rfl rfl ?_)))))))))
    refine wo_nil (thenW_n (wc_false rfl (wc_skip (thenW_n (wc_seq (wc_seq (wc_region (wm rfl rfl (wo_n rfl (nv_lssF rfl rfl rfl (by first | assumption | decide | omega)) rfl rfl ?_)))))))))
    refine wm rfl rfl (wm rfl rfl (wo_n rfl (nv_gtrF rfl rfl rfl (by first | assumption | decide | omega)) rfl rfl (wq rfl rfl rfl (wa rfl rfl (wo_nil (thenW_n (wc_false rfl (wc_skip (thenW_n ?_)))))))))
    refine wc_seq (wc_seq (wc_region (wm rfl rfl (wo_n rfl (nv_lssF rfl rfl rfl (by first | assumption | decide | omega)) rfl rfl (wa rfl rfl (wo_nil (thenW_n (wc_false rfl (wc_skip ?_)))))))))
    refine thenW_n (wc_seq (wc_seq (wc_region (wm rfl rfl (wo_n rfl (nv_eqlF rfl rfl rfl (by first | assumption | decide | omega)) rfl rfl (wa rfl rfl (wo_nil (thenW_n (wc_false rfl ?_)))))))))
    refine wc_skip (thenW_n (wc_seq (wc_seq (wc_region (wm rfl rfl (wo_n rfl (nv_lssF rfl rfl rfl (by first | assumption | decide | omega)) rfl rfl (wa rfl rfl (wo_nil (thenW_n ?_)))))))))
    refine wc_false rfl (wc_skip (thenW_n (wc_seq (wc_seq (wc_region (wm rfl rfl (wo_n rfl (nv_eqlF rfl rfl rfl (by first | assumption | decide | omega)) rfl rfl (wa rfl rfl (wo_nil ?_)))))))))
    refine thenW_n (wc_false rfl (wc_skip (thenW_n (wc_seq (wc_seq (wc_region (wm rfl rfl (wo_n rfl (nv_lssF rfl rfl rfl (by first | assumption | decide | omega)) rfl rfl (wa rfl rfl ?_)))))))))
    refine wo_nil (thenW_n (wc_false rfl (wc_skip (thenW_n (wc_seq (wc_seq (wc_region (wm rfl rfl (wo_n rfl (nv_eqlF rfl rfl rfl (by first | assumption | decide | omega)) rfl rfl ?_)))))))))
    refine wa rfl rfl (wo_nil (thenW_n (wc_false rfl (wc_skip (thenW_n (wc_seq (wc_region (wm rfl rfl (wo_n rfl (nv_eqlF rfl rfl rfl (by first | assumption | decide | omega)) rfl rfl ?_)))))))))
    refine wa rfl rfl (wo_nil (thenW_n (wc_false rfl (wc_skip (thenW_n (wc_exit ?_))))))
    refine blockW_y rfl ?_
    refine thenW_x ?_
    refine blockW_y rfl ?_
    refine thenW_x ?_
    refine blockW_y rfl ?_
    refine thenW_x ?_
    refine blockW_y rfl ?_
    refine thenW_x ?_
    refine blockW_y rfl ?_
    refine thenW_x ?_
    refine blockW_y rfl ?_
    refine thenW_x ?_
    refine blockW_y rfl ?_
    refine thenW_x ?_
    refine blockW_y rfl ?_
    refine thenW_x ?_
    refine blockW_y rfl ?_
    refine thenW_x (blockW_x (thenW_n (wc_seq (wc_region (wm rfl rfl (wm rfl rfl (wa rfl rfl (wa rfl rfl (wa rfl rfl ?_)))))))))
    refine wo_nil (thenW_n (wc_ret ?_))
    refine endW_many (by intro i hi; cases hi) rfl (rs := [.tmp 2, .tmp 3, .tmp 4]) (.tmp rfl (.tmp rfl (.tmp rfl .nil))) (by simp) ?_
    exact ⟨rfl, 4, 128, 191, rfl, by simp [leadM, h1, h2, h3, h4, h5, h6, h7, h8, h9, h10]⟩
theorem cut_spec (hg : Good m.gl) (l : List UInt8) (hl : l.length ≤ 4096) : ∃ a b, Ev Tryd.prog xb ext 28 [vs (txt l), vs (txt [10])] m (.tup [vs (txt a), b, .bool (decide (cutN l < l.length))]) m ∧ a.length = cutN l := by
  obtain ⟨r, hi, hr⟩ := hL.idx l m hg hl
  have hi' := ev_ext (p := Tryd.prog) (xb := xb) hi
  have h1 : ∃ a b, Ev Tryd.prog xb ext 40 [vs (txt l), vs (txt [10])] m (.tup [vs (txt a), b, .bool (decide (cutN l < l.length))]) m ∧ a.length = cutN l := by
    suffices hh : ∃ v m', Ev Tryd.prog xb ext 40 [vs (txt l), vs (txt [10])] m v m' ∧ (m' = m ∧ ∃ a b, v = .tup [vs (txt a), b, .bool (decide (cutN l < l.length))] ∧ a.length = cutN l) by
      obtain ⟨v, m', h1, rfl, a, b, rfl, h2⟩ := hh
      exact ⟨a, b, h1, h2⟩
    rcases hr with ⟨rfl, hr⟩ | ⟨rfl, hr⟩
    · have h10 : ([10] : List UInt8).length = 1 := rfl
      refine ev_of (fun m => hL.no _ _ m (by decide)) Tryd.func40 rfl rfl ?_
      refine wc_seq (wc_region (wa rfl rfl (wa rfl rfl (wa rfl rfl (wo_nil (thenW_n (wc_seq (wc_seq (wc_region ?_)))))))))
      refine wm rfl rfl (wm rfl rfl ?_)
      refine wo_call rfl rfl (by kernel_rfl) (hi') rfl rfl ?_
      refine wa rfl rfl (wo_nil (thenW_n (wc_seq (wc_region (wm rfl rfl (wo_n rfl (nv_geqT rfl rfl rfl (by first | assumption | decide | omega)) rfl rfl (wo_nil (thenW_n (wc_true rfl ?_)))))))))
      refine wc_seq ?_
      refine wc_draw (by kernel_rfl) ?_
      refine wd_cast (l' := [0, 1, 2, 3, 4, 5, 6, 7, 8, 9, 10, 11]) (by kernel_rfl) rfl ?_
      refine wd_n rfl rfl rfl (nv_move rfl rfl) rfl rfl ?_
      refine wd_n rfl rfl rfl (nv_move rfl rfl) rfl rfl ?_
      refine wd_n rfl rfl rfl (nv_slT rfl rfl rfl (by first | assumption | (simp only [List.length_drop, List.length_take]; omega) | omega)) rfl rfl ?_
      refine wd_n rfl rfl rfl (nv_move rfl rfl) rfl rfl ?_
      refine wd_n rfl rfl rfl (nv_move rfl rfl) rfl rfl ?_
      refine wd_n rfl rfl rfl (nv_move rfl rfl) rfl rfl ?_
      first
        | refine wd_n rfl rfl rfl (nv_lenL rfl rfl rfl) rfl rfl ?_
        | refine wd_n rfl rfl rfl (nv_lenT rfl rfl rfl) rfl rfl ?_
      refine wd_n rfl rfl rfl (nv_add rfl rfl rfl rfl (by first | decide | omega) (by first | decide | omega)) rfl rfl ?_
      refine wd_n rfl rfl rfl (nv_slF rfl rfl rfl (by first | assumption | (simp only [List.length_drop, List.length_take]; omega) | omega)) rfl rfl ?_
      refine wd_n rfl rfl rfl (nv_assign rfl rfl) rfl rfl ?_
      refine wd_n rfl rfl rfl (nv_assign rfl rfl) rfl rfl ?_
      refine wd_n rfl rfl rfl (nv_assign rfl rfl) rfl rfl ?_
      refine wd_nil ?_
      refine thenW_n (wc_ret (thenW_r ?_))
      refine endW_many (by intro i hi; cases hi) rfl (rs := [.tmp 4, .tmp 5, .tmp 6]) (.tmp rfl (.tmp rfl (.tmp rfl .nil))) (by simp) ?_
      exact ⟨rfl, l.take (cutN l), _, by simp [hr]; rfl, by simp; omega⟩
    · refine ev_of (fun m => hL.no _ _ m (by decide)) Tryd.func40 rfl rfl ?_
      refine wc_seq (wc_region (wa rfl rfl (wa rfl rfl (wa rfl rfl (wo_nil (thenW_n (wc_seq (wc_seq (wc_region ?_)))))))))
      refine wm rfl rfl (wm rfl rfl ?_)
      refine wo_call rfl rfl (by kernel_rfl) (hi') rfl rfl ?_
      refine wa rfl rfl (wo_nil (thenW_n (wc_seq (wc_region (wm rfl rfl (wo_n rfl (nv_geqF rfl rfl rfl (by first | assumption | decide | omega)) rfl rfl (wo_nil (thenW_n (wc_false rfl ?_)))))))))
      refine wc_skip (thenW_n (wc_seq (wc_region (wm rfl rfl (wa rfl rfl (wa rfl rfl (wa rfl rfl (wo_nil (thenW_n ?_)))))))))
      refine wc_ret ?_
      refine endW_many (by intro i hi; cases hi) rfl (rs := [.tmp 4, .tmp 5, .tmp 6]) (.tmp rfl (.tmp rfl (.tmp rfl .nil))) (by simp) ?_
      exact ⟨rfl, l, _, by simp [hr]; rfl, hr.symm⟩
  obtain ⟨a, b, h1, h2⟩ := h1
  refine ⟨a, b, ?_, h2⟩
  refine ev_val ?_
  refine ev_of (fun m => hL.no _ _ m (by decide)) Tryd.func28 rfl rfl ?_
  refine wc_seq (wc_region (wa rfl rfl (wa rfl rfl (wa rfl rfl (wo_nil (thenW_n (wc_seq (wc_region (wm rfl rfl ?_)))))))))
  refine wm rfl rfl ?_
  refine wo_call rfl rfl (by kernel_rfl) (h1) rfl rfl ?_
  refine wx rfl rfl rfl (wx rfl rfl rfl (wx rfl rfl rfl (wa rfl rfl (wa rfl rfl (wa rfl rfl (wo_nil (thenW_n (wc_ret ?_))))))))
  refine endW_many (by intro i hi; cases hi) rfl (rs := [.tmp 4, .tmp 5, .tmp 6]) (.tmp rfl (.tmp rfl (.tmp rfl .nil))) (by simp) ?_
  exact ⟨rfl, rfl⟩
end
end Go.Proofs.YtppcjlplihiiiaaDoor.Sy

namespace Go.Proofs.YtppcjlplihiiiaaDoor.Sy
open Go Go.Ev Go.Ev.Pm Go.Ev.Lm
set_option linter.unusedVariables false
set_option linter.unusedSimpArgs false
set_option linter.unusedSectionVars false
section
variable {m : Mem} {xb : XB} {ext : CallF} (hL : LH xb ext)
include hL
theorem width_spec (l : List UInt8) : Ev Tryd.prog xb ext 38 [vs (txt l)] m (.int .i64 (widM l : Nat)) m := by
  refine ev_val ?_
  cases hl : l with
  | nil =>
    have he : txt [] = txt [] := rfl
    refine ev_of (fun m => hL.no _ _ m (by decide)) Tryd.func38 rfl rfl ?_
    refine wc_seq (wc_region (wa rfl rfl (wo_nil (thenW_n (wc_seq (wc_seq (wc_region (wm rfl rfl (wo_n rfl (nv_seqlT (u := txt []) rfl rfl (show _ = some (vs (txt [])) by kernel_rfl) (by assumption)) rfl rfl ?_)))))))))
    refine wo_nil (thenW_n (wc_true rfl (wc_seq (wc_region (wa rfl rfl (wo_nil (thenW_n (wc_ret (thenW_r ?_)))))))))
    refine endW_ret rfl rfl ?_
    exact ⟨rfl, rfl⟩
  | cons b r =>
    rw [← hl]
    have hne : txt l ≠ txt [] := fun e => by have := txt_inj e; rw [hl] at this; cases this
    have h0 : l[0]? = some b := by rw [hl]; rfl
    have hlen : l.length = r.length + 1 := by rw [hl]; rfl
    obtain ⟨lo, hi, hld, hlm⟩ := lead_spec (m := m) hL b
    generalize hk : (leadM b.toNat).1 = k at hld hlm
    have hk4 : k = 0 ∨ k = 1 ∨ k = 2 ∨ k = 3 ∨ k = 4 := by
      rw [← hk]; unfold leadM; repeat' split
      all_goals simp
    rcases hk4 with rfl | rfl | rfl | rfl | rfl
    · have hw : widM l = 0 := by rw [hl]; simp [widM, hlm]
      refine ev_of (fun m => hL.no _ _ m (by decide)) Tryd.func38 rfl rfl ?_
      refine wc_seq (wc_region (wa rfl rfl (wo_nil (thenW_n (wc_seq (wc_seq (wc_region (wm rfl rfl (wo_n rfl (nv_seqlF (u := txt []) rfl rfl (show _ = some (vs (txt [])) by kernel_rfl) (by assumption)) rfl rfl ?_)))))))))
      refine wo_nil (thenW_n (wc_false rfl (wc_skip (thenW_n (wc_seq (wc_region (wm rfl rfl (wo_n rfl (nv_ixS (n := 0) rfl rfl rfl (by assumption)) rfl rfl ?_))))))))
      refine wo_call rfl rfl (by kernel_rfl) (hld) rfl rfl ?_
      refine wm rfl rfl (wx rfl rfl rfl (wx rfl rfl rfl (wx rfl rfl rfl (wa rfl rfl (wa rfl rfl (wa rfl rfl (wo_nil (thenW_n (wc_seq ?_)))))))))
      refine wc_seq (wc_region (wm rfl rfl (wm rfl rfl ?_)))
      first
        | refine wo_n rfl (nv_lenL rfl rfl rfl) rfl rfl ?_
        | refine wo_n rfl (nv_lenT rfl rfl rfl) rfl rfl ?_
      refine wo_n rfl (nv_gtrF rfl rfl rfl (by first | assumption | decide | omega)) rfl rfl (wo_nil (thenW_n (wc_false rfl (wc_skip (thenW_n (wc_seq (wc_region (wa rfl rfl (wo_nil ?_)))))))))
      refine thenW_n (wc_seq (wc_seq (wc_region (wm rfl rfl (wo_nil (thenW_n (wc_block (wc_seq (wc_block ?_)))))))))
      refine wc_seq (wc_block (wc_seq (wc_block (wc_seq (wc_seq (wc_seq (wc_region (wo_n rfl (nv_eqlF rfl rfl rfl (by first | assumption | decide | omega)) rfl rfl (wa rfl rfl ?_)))))))))
      refine wo_nil (thenW_n (wc_false rfl (wc_skip (thenW_n (wc_seq (wc_seq (wc_region (wo_n rfl (nv_eqlF rfl rfl rfl (by first | assumption | decide | omega)) rfl rfl (wa rfl rfl ?_)))))))))
      refine wo_nil (thenW_n (wc_false rfl (wc_skip (thenW_n (wc_seq (wc_region (wo_n rfl (nv_eqlF rfl rfl rfl (by first | assumption | decide | omega)) rfl rfl (wa rfl rfl (wo_nil ?_)))))))))
      refine thenW_n (wc_false rfl (wc_skip (thenW_n (wc_exit ?_))))
      refine blockW_y rfl ?_
      refine thenW_x ?_
      refine blockW_y rfl ?_
      refine thenW_x ?_
      refine blockW_y rfl ?_
      refine thenW_x (blockW_x (thenW_n (wc_seq (wc_seq (wc_region (wm rfl rfl (wo_n rfl (nv_not rfl rfl) rfl rfl (wo_nil (thenW_n ?_)))))))))
      refine wc_false rfl (wc_skip (thenW_n (wc_seq (wc_region (wm rfl rfl (wa rfl rfl (wo_nil (thenW_n (wc_ret ?_)))))))))
      refine endW_ret rfl rfl ?_
      exact ⟨rfl, by rw [hw]⟩
    · have hw : widM l = 1 := by rw [hl]; simp [widM, hlm]
      refine ev_of (fun m => hL.no _ _ m (by decide)) Tryd.func38 rfl rfl ?_
      refine wc_seq (wc_region (wa rfl rfl (wo_nil (thenW_n (wc_seq (wc_seq (wc_region (wm rfl rfl (wo_n rfl (nv_seqlF (u := txt []) rfl rfl (show _ = some (vs (txt [])) by kernel_rfl) (by assumption)) rfl rfl ?_)))))))))
      refine wo_nil (thenW_n (wc_false rfl (wc_skip (thenW_n (wc_seq (wc_region (wm rfl rfl (wo_n rfl (nv_ixS (n := 0) rfl rfl rfl (by assumption)) rfl rfl ?_))))))))
      refine wo_call rfl rfl (by kernel_rfl) (hld) rfl rfl ?_
      refine wm rfl rfl (wx rfl rfl rfl (wx rfl rfl rfl (wx rfl rfl rfl (wa rfl rfl (wa rfl rfl (wa rfl rfl (wo_nil (thenW_n (wc_seq ?_)))))))))
      refine wc_seq (wc_region (wm rfl rfl (wm rfl rfl ?_)))
      first
        | refine wo_n rfl (nv_lenL rfl rfl rfl) rfl rfl ?_
        | refine wo_n rfl (nv_lenT rfl rfl rfl) rfl rfl ?_
      refine wo_n rfl (nv_gtrF rfl rfl rfl (by first | assumption | decide | omega)) rfl rfl (wo_nil (thenW_n (wc_false rfl (wc_skip (thenW_n (wc_seq (wc_region (wa rfl rfl (wo_nil ?_)))))))))
      refine thenW_n (wc_seq (wc_seq (wc_region (wm rfl rfl (wo_nil (thenW_n (wc_block (wc_seq (wc_block ?_)))))))))
      refine wc_seq (wc_block (wc_seq (wc_block (wc_seq (wc_seq (wc_seq (wc_region (wo_n rfl (nv_eqlF rfl rfl rfl (by first | assumption | decide | omega)) rfl rfl (wa rfl rfl ?_)))))))))
      refine wo_nil (thenW_n (wc_false rfl (wc_skip (thenW_n (wc_seq (wc_seq (wc_region (wo_n rfl (nv_eqlF rfl rfl rfl (by first | assumption | decide | omega)) rfl rfl (wa rfl rfl ?_)))))))))
      refine wo_nil (thenW_n (wc_false rfl (wc_skip (thenW_n (wc_seq (wc_region (wo_n rfl (nv_eqlF rfl rfl rfl (by first | assumption | decide | omega)) rfl rfl (wa rfl rfl (wo_nil ?_)))))))))
      refine thenW_n (wc_false rfl (wc_skip (thenW_n (wc_exit ?_))))
      refine blockW_y rfl ?_
      refine thenW_x ?_
      refine blockW_y rfl ?_
      refine thenW_x ?_
      refine blockW_y rfl ?_
      refine thenW_x (blockW_x (thenW_n (wc_seq (wc_seq (wc_region (wm rfl rfl (wo_n rfl (nv_not rfl rfl) rfl rfl (wo_nil (thenW_n ?_)))))))))
      refine wc_false rfl (wc_skip (thenW_n (wc_seq (wc_region (wm rfl rfl (wa rfl rfl (wo_nil (thenW_n (wc_ret ?_)))))))))
      refine endW_ret rfl rfl ?_
      exact ⟨rfl, by rw [hw]⟩
    · by_cases hs : 2 ≤ l.length
      · skip
        obtain ⟨c, r', hr⟩ : ∃ c r', r = c :: r' := by
          match r, hlen with
          | c :: r', _ => exact ⟨_, r', rfl⟩
          | [], h => simp at h; omega
        have h1 : l[1]? = some c := by rw [hl, hr]; rfl
        by_cases g1 : lo ≤ c.toNat
        · by_cases g2 : c.toNat ≤ hi
          · have hw : widM l = 2 := by rw [hl, hr]; simp [widM, hlm, secM, g1, g2]
            refine ev_of (fun m => hL.no _ _ m (by decide)) Tryd.func38 rfl rfl ?_
            refine wc_seq (wc_region (wa rfl rfl (wo_nil (thenW_n (wc_seq (wc_seq (wc_region (wm rfl rfl (wo_n rfl (nv_seqlF (u := txt []) rfl rfl (show _ = some (vs (txt [])) by kernel_rfl) (by assumption)) rfl rfl ?_)))))))))
            refine wo_nil (thenW_n (wc_false rfl (wc_skip (thenW_n (wc_seq (wc_region (wm rfl rfl (wo_n rfl (nv_ixS (n := 0) rfl rfl rfl (by assumption)) rfl rfl ?_))))))))
            refine wo_call rfl rfl (by kernel_rfl) (hld) rfl rfl ?_
            refine wm rfl rfl (wx rfl rfl rfl (wx rfl rfl rfl (wx rfl rfl rfl (wa rfl rfl (wa rfl rfl (wa rfl rfl (wo_nil (thenW_n (wc_seq ?_)))))))))
            refine wc_seq (wc_region (wm rfl rfl (wm rfl rfl ?_)))
            first
              | refine wo_n rfl (nv_lenL rfl rfl rfl) rfl rfl ?_
              | refine wo_n rfl (nv_lenT rfl rfl rfl) rfl rfl ?_
            refine wo_n rfl (nv_gtrF rfl rfl rfl (by first | assumption | decide | omega)) rfl rfl (wo_nil (thenW_n (wc_false rfl (wc_skip (thenW_n (wc_seq (wc_region (wa rfl rfl (wo_nil ?_)))))))))
            refine thenW_n (wc_seq (wc_seq (wc_region (wm rfl rfl (wo_nil (thenW_n (wc_block (wc_seq (wc_block ?_)))))))))
            refine wc_seq (wc_block (wc_seq (wc_block (wc_seq (wc_seq (wc_seq (wc_region (wo_n rfl (nv_eqlF rfl rfl rfl (by first | assumption | decide | omega)) rfl rfl (wa rfl rfl ?_)))))))))
            refine wo_nil (thenW_n (wc_false rfl (wc_skip (thenW_n (wc_seq (wc_seq (wc_region (wo_n rfl (nv_eqlF rfl rfl rfl (by first | assumption | decide | omega)) rfl rfl (wa rfl rfl ?_)))))))))
            refine wo_nil (thenW_n (wc_false rfl (wc_skip (thenW_n (wc_seq (wc_region (wo_n rfl (nv_eqlT rfl rfl rfl (by first | assumption | decide | omega)) rfl rfl (wa rfl rfl (wo_nil ?_)))))))))
            refine thenW_n (wc_true rfl (wc_exit (thenW_x ?_)))
            refine blockW_y rfl ?_
            refine thenW_x ?_
            refine blockW_y rfl ?_
            refine thenW_x (blockW_x (thenW_n (wc_seq (wc_region (wm rfl rfl (wm rfl rfl (wm rfl rfl (wo_n rfl (nv_ixS (n := 1) rfl rfl rfl (by assumption)) rfl rfl (wm rfl rfl ?_)))))))))
            refine wo_n rfl (nv_geqT rfl rfl rfl (by first | assumption | decide | omega)) rfl rfl (wp rfl rfl rfl (wm rfl rfl (wm rfl rfl (wo_n rfl (nv_ixS (n := 1) rfl rfl rfl (by assumption)) rfl rfl (wm rfl rfl (wo_n rfl (nv_leqT rfl rfl rfl (by first | assumption | decide | omega)) rfl rfl (wp rfl rfl rfl (wa rfl rfl (wo_nil ?_)))))))))
            refine thenW_n (wc_exit (blockW_x (thenW_n (wc_seq (wc_seq (wc_region (wm rfl rfl (wo_n rfl (nv_not rfl rfl) rfl rfl (wo_nil ?_)))))))))
            refine thenW_n (wc_false rfl (wc_skip (thenW_n (wc_seq (wc_region (wm rfl rfl (wa rfl rfl (wo_nil (thenW_n ?_)))))))))
            refine wc_ret ?_
            refine endW_ret rfl rfl ?_
            exact ⟨rfl, by rw [hw]⟩
          · have hw : widM l = 0 := by rw [hl, hr]; simp [widM, hlm, secM, g1, g2]
            refine ev_of (fun m => hL.no _ _ m (by decide)) Tryd.func38 rfl rfl ?_
            refine wc_seq (wc_region (wa rfl rfl (wo_nil (thenW_n (wc_seq (wc_seq (wc_region (wm rfl rfl (wo_n rfl (nv_seqlF (u := txt []) rfl rfl (show _ = some (vs (txt [])) by kernel_rfl) (by assumption)) rfl rfl ?_)))))))))
            refine wo_nil (thenW_n (wc_false rfl (wc_skip (thenW_n (wc_seq (wc_region (wm rfl rfl (wo_n rfl (nv_ixS (n := 0) rfl rfl rfl (by assumption)) rfl rfl ?_))))))))
            refine wo_call rfl rfl (by kernel_rfl) (hld) rfl rfl ?_
            refine wm rfl rfl (wx rfl rfl rfl (wx rfl rfl rfl (wx rfl rfl rfl (wa rfl rfl (wa rfl rfl (wa rfl rfl (wo_nil (thenW_n (wc_seq ?_)))))))))
            refine wc_seq (wc_region (wm rfl rfl (wm rfl rfl ?_)))
            first
              | refine wo_n rfl (nv_lenL rfl rfl rfl) rfl rfl ?_
              | refine wo_n rfl (nv_lenT rfl rfl rfl) rfl rfl ?_
            refine wo_n rfl (nv_gtrF rfl rfl rfl (by first | assumption | decide | omega)) rfl rfl (wo_nil (thenW_n (wc_false rfl (wc_skip (thenW_n (wc_seq (wc_region (wa rfl rfl (wo_nil ?_)))))))))
            refine thenW_n (wc_seq (wc_seq (wc_region (wm rfl rfl (wo_nil (thenW_n (wc_block (wc_seq (wc_block ?_)))))))))
            refine wc_seq (wc_block (wc_seq (wc_block (wc_seq (wc_seq (wc_seq (wc_region (wo_n rfl (nv_eqlF rfl rfl rfl (by first | assumption | decide | omega)) rfl rfl (wa rfl rfl ?_)))))))))
            refine wo_nil (thenW_n (wc_false rfl (wc_skip (thenW_n (wc_seq (wc_seq (wc_region (wo_n rfl (nv_eqlF rfl rfl rfl (by first | assumption | decide | omega)) rfl rfl (wa rfl rfl ?_)))))))))
            refine wo_nil (thenW_n (wc_false rfl (wc_skip (thenW_n (wc_seq (wc_region (wo_n rfl (nv_eqlT rfl rfl rfl (by first | assumption | decide | omega)) rfl rfl (wa rfl rfl (wo_nil ?_)))))))))
            refine thenW_n (wc_true rfl (wc_exit (thenW_x ?_)))
            refine blockW_y rfl ?_
            refine thenW_x ?_
            refine blockW_y rfl ?_
            refine thenW_x (blockW_x (thenW_n (wc_seq (wc_region (wm rfl rfl (wm rfl rfl (wm rfl rfl (wo_n rfl (nv_ixS (n := 1) rfl rfl rfl (by assumption)) rfl rfl (wm rfl rfl ?_)))))))))
            refine wo_n rfl (nv_geqT rfl rfl rfl (by first | assumption | decide | omega)) rfl rfl (wp rfl rfl rfl (wm rfl rfl (wm rfl rfl (wo_n rfl (nv_ixS (n := 1) rfl rfl rfl (by assumption)) rfl rfl (wm rfl rfl (wo_n rfl (nv_leqF rfl rfl rfl (by first | assumption | decide | omega)) rfl rfl (wp rfl rfl rfl (wa rfl rfl (wo_nil ?_)))))))))
            refine thenW_n (wc_exit (blockW_x (thenW_n (wc_seq (wc_seq (wc_region (wm rfl rfl (wo_n rfl (nv_not rfl rfl) rfl rfl (wo_nil ?_)))))))))
            refine thenW_n (wc_true rfl (wc_seq (wc_region (wa rfl rfl (wo_nil (thenW_n (wc_ret (thenW_r ?_))))))))
            refine endW_ret rfl rfl ?_
            exact ⟨rfl, by rw [hw]; rfl⟩
        · have hw : widM l = 0 := by rw [hl, hr]; simp [widM, hlm, secM, g1]
          refine ev_of (fun m => hL.no _ _ m (by decide)) Tryd.func38 rfl rfl ?_
          refine wc_seq (wc_region (wa rfl rfl (wo_nil (thenW_n (wc_seq (wc_seq (wc_region (wm rfl rfl (wo_n rfl (nv_seqlF (u := txt []) rfl rfl (show _ = some (vs (txt [])) by kernel_rfl) (by assumption)) rfl rfl ?_)))))))))
          refine wo_nil (thenW_n (wc_false rfl (wc_skip (thenW_n (wc_seq (wc_region (wm rfl rfl (wo_n rfl (nv_ixS (n := 0) rfl rfl rfl (by assumption)) rfl rfl ?_))))))))
          refine wo_call rfl rfl (by kernel_rfl) (hld) rfl rfl ?_
          refine wm rfl rfl (wx rfl rfl rfl (wx rfl rfl rfl (wx rfl rfl rfl (wa rfl rfl (wa rfl rfl (wa rfl rfl (wo_nil (thenW_n (wc_seq ?_)))))))))
          refine wc_seq (wc_region (wm rfl rfl (wm rfl rfl ?_)))
          first
            | refine wo_n rfl (nv_lenL rfl rfl rfl) rfl rfl ?_
            | refine wo_n rfl (nv_lenT rfl rfl rfl) rfl rfl ?_
          refine wo_n rfl (nv_gtrF rfl rfl rfl (by first | assumption | decide | omega)) rfl rfl (wo_nil (thenW_n (wc_false rfl (wc_skip (thenW_n (wc_seq (wc_region (wa rfl rfl (wo_nil ?_)))))))))
          refine thenW_n (wc_seq (wc_seq (wc_region (wm rfl rfl (wo_nil (thenW_n (wc_block (wc_seq (wc_block ?_)))))))))
          refine wc_seq (wc_block (wc_seq (wc_block (wc_seq (wc_seq (wc_seq (wc_region (wo_n rfl (nv_eqlF rfl rfl rfl (by first | assumption | decide | omega)) rfl rfl (wa rfl rfl ?_)))))))))
          refine wo_nil (thenW_n (wc_false rfl (wc_skip (thenW_n (wc_seq (wc_seq (wc_region (wo_n rfl (nv_eqlF rfl rfl rfl (by first | assumption | decide | omega)) rfl rfl (wa rfl rfl ?_)))))))))
          refine wo_nil (thenW_n (wc_false rfl (wc_skip (thenW_n (wc_seq (wc_region (wo_n rfl (nv_eqlT rfl rfl rfl (by first | assumption | decide | omega)) rfl rfl (wa rfl rfl (wo_nil ?_)))))))))
          refine thenW_n (wc_true rfl (wc_exit (thenW_x ?_)))
          refine blockW_y rfl ?_
          refine thenW_x ?_
          refine blockW_y rfl ?_
          refine thenW_x (blockW_x (thenW_n (wc_seq (wc_region (wm rfl rfl (wm rfl rfl (wm rfl rfl (wo_n rfl (nv_ixS (n := 1) rfl rfl rfl (by assumption)) rfl rfl (wm rfl rfl ?_)))))))))
          refine wo_n rfl (nv_geqF rfl rfl rfl (by first | assumption | decide | omega)) rfl rfl (wp rfl rfl rfl (wm rfl rfl (wg rfl (wg rfl (wg rfl (wg rfl (wq rfl rfl rfl (wa rfl rfl (wo_nil ?_)))))))))
          refine thenW_n (wc_exit (blockW_x (thenW_n (wc_seq (wc_seq (wc_region (wm rfl rfl (wo_n rfl (nv_not rfl rfl) rfl rfl (wo_nil ?_)))))))))
          refine thenW_n (wc_true rfl (wc_seq (wc_region (wa rfl rfl (wo_nil (thenW_n (wc_ret (thenW_r ?_))))))))
          refine endW_ret rfl rfl ?_
          exact ⟨rfl, by rw [hw]; rfl⟩
      · have hw : widM l = 0 := by
          rw [hl]
          match r, hlen with
          | [], _ => simp [widM, hlm]
          | _ :: _, h => simp at h; omega
        refine ev_of (fun m => hL.no _ _ m (by decide)) Tryd.func38 rfl rfl ?_
        refine wc_seq (wc_region (wa rfl rfl (wo_nil (thenW_n (wc_seq (wc_seq (wc_region (wm rfl rfl (wo_n rfl (nv_seqlF (u := txt []) rfl rfl (show _ = some (vs (txt [])) by kernel_rfl) (by assumption)) rfl rfl ?_)))))))))
        refine wo_nil (thenW_n (wc_false rfl (wc_skip (thenW_n (wc_seq (wc_region (wm rfl rfl (wo_n rfl (nv_ixS (n := 0) rfl rfl rfl (by assumption)) rfl rfl ?_))))))))
        refine wo_call rfl rfl (by kernel_rfl) (hld) rfl rfl ?_
        refine wm rfl rfl (wx rfl rfl rfl (wx rfl rfl rfl (wx rfl rfl rfl (wa rfl rfl (wa rfl rfl (wa rfl rfl (wo_nil (thenW_n (wc_seq ?_)))))))))
        refine wc_seq (wc_region (wm rfl rfl (wm rfl rfl ?_)))
        first
          | refine wo_n rfl (nv_lenL rfl rfl rfl) rfl rfl ?_
          | refine wo_n rfl (nv_lenT rfl rfl rfl) rfl rfl ?_
        refine wo_n rfl (nv_gtrT rfl rfl rfl (by first | assumption | decide | omega)) rfl rfl (wo_nil (thenW_n (wc_true rfl (wc_seq (wc_region (wa rfl rfl (wo_nil (thenW_n (wc_ret ?_)))))))))
        refine thenW_r ?_
        refine endW_ret rfl rfl ?_
        exact ⟨rfl, by rw [hw]; rfl⟩
    · by_cases hs : 3 ≤ l.length
      · skip
        obtain ⟨c, d, r', hr⟩ : ∃ c d r', r = c :: d :: r' := by
          match r, hlen with
          | c :: d :: r', _ => exact ⟨_, _, r', rfl⟩
          | [], h => simp at h; omega
          | [_], h => simp at h; omega
        have h1 : l[1]? = some c := by rw [hl, hr]; rfl
        have h2 : l[2]? = some d := by rw [hl, hr]; rfl
        have t_d := tail_spec (m := m) hL d
        cases ht_d : tailM d with
        | false =>
          rw [ht_d] at t_d
          have hw : widM l = 0 := by rw [hl, hr]; simp [widM, hlm, ht_d]
          refine ev_of (fun m => hL.no _ _ m (by decide)) Tryd.func38 rfl rfl ?_
          refine wc_seq (wc_region (wa rfl rfl (wo_nil (thenW_n (wc_seq (wc_seq (wc_region (wm rfl rfl (wo_n rfl (nv_seqlF (u := txt []) rfl rfl (show _ = some (vs (txt [])) by kernel_rfl) (by assumption)) rfl rfl ?_)))))))))
          refine wo_nil (thenW_n (wc_false rfl (wc_skip (thenW_n (wc_seq (wc_region (wm rfl rfl (wo_n rfl (nv_ixS (n := 0) rfl rfl rfl (by assumption)) rfl rfl ?_))))))))
          refine wo_call rfl rfl (by kernel_rfl) (hld) rfl rfl ?_
          refine wm rfl rfl (wx rfl rfl rfl (wx rfl rfl rfl (wx rfl rfl rfl (wa rfl rfl (wa rfl rfl (wa rfl rfl (wo_nil (thenW_n (wc_seq ?_)))))))))
          refine wc_seq (wc_region (wm rfl rfl (wm rfl rfl ?_)))
          first
            | refine wo_n rfl (nv_lenL rfl rfl rfl) rfl rfl ?_
            | refine wo_n rfl (nv_lenT rfl rfl rfl) rfl rfl ?_
          refine wo_n rfl (nv_gtrF rfl rfl rfl (by first | assumption | decide | omega)) rfl rfl (wo_nil (thenW_n (wc_false rfl (wc_skip (thenW_n (wc_seq (wc_region (wa rfl rfl (wo_nil ?_)))))))))
          refine thenW_n (wc_seq (wc_seq (wc_region (wm rfl rfl (wo_nil (thenW_n (wc_block (wc_seq (wc_block ?_)))))))))
          refine wc_seq (wc_block (wc_seq (wc_block (wc_seq (wc_seq (wc_seq (wc_region (wo_n rfl (nv_eqlF rfl rfl rfl (by first | assumption | decide | omega)) rfl rfl (wa rfl rfl ?_)))))))))
          refine wo_nil (thenW_n (wc_false rfl (wc_skip (thenW_n (wc_seq (wc_seq (wc_region (wo_n rfl (nv_eqlT rfl rfl rfl (by first | assumption | decide | omega)) rfl rfl (wa rfl rfl ?_)))))))))
          refine wo_nil (thenW_n (wc_true rfl (wc_exit (thenW_x (thenW_x ?_)))))
          refine blockW_y rfl ?_
          refine thenW_x (blockW_x (thenW_n (wc_region (wm rfl rfl (wm rfl rfl (wm rfl rfl (wo_n rfl (nv_ixS (n := 2) rfl rfl rfl (by assumption)) rfl rfl ?_)))))))
          refine wo_call rfl rfl (by kernel_rfl) (t_d) rfl rfl ?_
          refine wp rfl rfl rfl (wa rfl rfl (wo_nil (blockW_n (thenW_n (wc_seq (wc_region (wm rfl rfl (wm rfl rfl (wg rfl ?_)))))))))
          refine wg rfl (wg rfl (wg rfl (wq rfl rfl rfl (wm rfl rfl (wg rfl (wg rfl (wg rfl (wg rfl (wq rfl rfl rfl ?_)))))))))
          refine wa rfl rfl (wo_nil (thenW_n (wc_exit (blockW_x (thenW_n (wc_seq (wc_seq (wc_region (wm rfl rfl ?_)))))))))
          refine wo_n rfl (nv_not rfl rfl) rfl rfl (wo_nil (thenW_n (wc_true rfl (wc_seq (wc_region (wa rfl rfl (wo_nil (thenW_n (wc_ret ?_)))))))))
          refine thenW_r ?_
          refine endW_ret rfl rfl ?_
          exact ⟨rfl, by rw [hw]; rfl⟩
        | true =>
          rw [ht_d] at t_d
          by_cases g1 : lo ≤ c.toNat
          · by_cases g2 : c.toNat ≤ hi
            · have hw : widM l = 3 := by rw [hl, hr]; simp [widM, hlm, secM, g1, g2, ht_d]
              refine ev_of (fun m => hL.no _ _ m (by decide)) Tryd.func38 rfl rfl ?_
              refine wc_seq (wc_region (wa rfl rfl (wo_nil (thenW_n (wc_seq (wc_seq (wc_region (wm rfl rfl (wo_n rfl (nv_seqlF (u := txt []) rfl rfl (show _ = some (vs (txt [])) by kernel_rfl) (by assumption)) rfl rfl ?_)))))))))
              refine wo_nil (thenW_n (wc_false rfl (wc_skip (thenW_n (wc_seq (wc_region (wm rfl rfl (wo_n rfl (nv_ixS (n := 0) rfl rfl rfl (by assumption)) rfl rfl ?_))))))))
              refine wo_call rfl rfl (by kernel_rfl) (hld) rfl rfl ?_
              refine wm rfl rfl (wx rfl rfl rfl (wx rfl rfl rfl (wx rfl rfl rfl (wa rfl rfl (wa rfl rfl (wa rfl rfl (wo_nil (thenW_n (wc_seq ?_)))))))))
              refine wc_seq (wc_region (wm rfl rfl (wm rfl rfl ?_)))
              first
                | refine wo_n rfl (nv_lenL rfl rfl rfl) rfl rfl ?_
                | refine wo_n rfl (nv_lenT rfl rfl rfl) rfl rfl ?_
              refine wo_n rfl (nv_gtrF rfl rfl rfl (by first | assumption | decide | omega)) rfl rfl (wo_nil (thenW_n (wc_false rfl (wc_skip (thenW_n (wc_seq (wc_region (wa rfl rfl (wo_nil ?_)))))))))
              refine thenW_n (wc_seq (wc_seq (wc_region (wm rfl rfl (wo_nil (thenW_n (wc_block (wc_seq (wc_block ?_)))))))))
              refine wc_seq (wc_block (wc_seq (wc_block (wc_seq (wc_seq (wc_seq (wc_region (wo_n rfl (nv_eqlF rfl rfl rfl (by first | assumption | decide | omega)) rfl rfl (wa rfl rfl ?_)))))))))
              refine wo_nil (thenW_n (wc_false rfl (wc_skip (thenW_n (wc_seq (wc_seq (wc_region (wo_n rfl (nv_eqlT rfl rfl rfl (by first | assumption | decide | omega)) rfl rfl (wa rfl rfl ?_)))))))))
              refine wo_nil (thenW_n (wc_true rfl (wc_exit (thenW_x (thenW_x ?_)))))
              refine blockW_y rfl ?_
              refine thenW_x (blockW_x (thenW_n (wc_region (wm rfl rfl (wm rfl rfl (wm rfl rfl (wo_n rfl (nv_ixS (n := 2) rfl rfl rfl (by assumption)) rfl rfl ?_)))))))
              refine wo_call rfl rfl (by kernel_rfl) (t_d) rfl rfl ?_
              refine wp rfl rfl rfl (wa rfl rfl (wo_nil (blockW_n (thenW_n (wc_seq (wc_region (wm rfl rfl (wm rfl rfl (wm rfl rfl ?_)))))))))
              refine wo_n rfl (nv_ixS (n := 1) rfl rfl rfl (by assumption)) rfl rfl (wm rfl rfl (wo_n rfl (nv_geqT rfl rfl rfl (by first | assumption | decide | omega)) rfl rfl (wp rfl rfl rfl (wm rfl rfl (wm rfl rfl (wo_n rfl (nv_ixS (n := 1) rfl rfl rfl (by assumption)) rfl rfl (wm rfl rfl (wo_n rfl (nv_leqT rfl rfl rfl (by first | assumption | decide | omega)) rfl rfl (wp rfl rfl rfl ?_)))))))))
              refine wa rfl rfl (wo_nil (thenW_n (wc_exit (blockW_x (thenW_n (wc_seq (wc_seq (wc_region (wm rfl rfl ?_)))))))))
              refine wo_n rfl (nv_not rfl rfl) rfl rfl (wo_nil (thenW_n (wc_false rfl (wc_skip (thenW_n (wc_seq (wc_region (wm rfl rfl (wa rfl rfl ?_)))))))))
              refine wo_nil (thenW_n (wc_ret ?_))
              refine endW_ret rfl rfl ?_
              exact ⟨rfl, by rw [hw]⟩
            · have hw : widM l = 0 := by rw [hl, hr]; simp [widM, hlm, secM, g1, g2, ht_d]
              refine ev_of (fun m => hL.no _ _ m (by decide)) Tryd.func38 rfl rfl ?_
              refine wc_seq (wc_region (wa rfl rfl (wo_nil (thenW_n (wc_seq (wc_seq (wc_region (wm rfl rfl (wo_n rfl (nv_seqlF (u := txt []) rfl rfl (show _ = some (vs (txt [])) by kernel_rfl) (by assumption)) rfl rfl ?_)))))))))
              refine wo_nil (thenW_n (wc_false rfl (wc_skip (thenW_n (wc_seq (wc_region (wm rfl rfl (wo_n rfl (nv_ixS (n := 0) rfl rfl rfl (by assumption)) rfl rfl ?_))))))))
              refine wo_call rfl rfl (by kernel_rfl) (hld) rfl rfl ?_
              refine wm rfl rfl (wx rfl rfl rfl (wx rfl rfl rfl (wx rfl rfl rfl (wa rfl rfl (wa rfl rfl (wa rfl rfl (wo_nil (thenW_n (wc_seq ?_)))))))))
              refine wc_seq (wc_region (wm rfl rfl (wm rfl rfl ?_)))
              first
                | refine wo_n rfl (nv_lenL rfl rfl rfl) rfl rfl ?_
                | refine wo_n rfl (nv_lenT rfl rfl rfl) rfl rfl ?_
              refine wo_n rfl (nv_gtrF rfl rfl rfl (by first | assumption | decide | omega)) rfl rfl (wo_nil (thenW_n (wc_false rfl (wc_skip (thenW_n (wc_seq (wc_region (wa rfl rfl (wo_nil ?_)))))))))
              refine thenW_n (wc_seq (wc_seq (wc_region (wm rfl rfl (wo_nil (thenW_n (wc_block (wc_seq (wc_block ?_)))))))))
              refine wc_seq (wc_block (wc_seq (wc_block (wc_seq (wc_seq (wc_seq (wc_region (wo_n rfl (nv_eqlF rfl rfl rfl (by first | assumption | decide | omega)) rfl rfl (wa rfl rfl ?_)))))))))
              refine wo_nil (thenW_n (wc_false rfl (wc_skip (thenW_n (wc_seq (wc_seq (wc_region (wo_n rfl (nv_eqlT rfl rfl rfl (by first | assumption | decide | omega)) rfl rfl (wa rfl rfl ?_)))))))))
              refine wo_nil (thenW_n (wc_true rfl (wc_exit (thenW_x (thenW_x ?_)))))
              refine blockW_y rfl ?_
              refine thenW_x (blockW_x (thenW_n (wc_region (wm rfl rfl (wm rfl rfl (wm rfl rfl (wo_n rfl (nv_ixS (n := 2) rfl rfl rfl (by assumption)) rfl rfl ?_)))))))
              refine wo_call rfl rfl (by kernel_rfl) (t_d) rfl rfl ?_
              refine wp rfl rfl rfl (wa rfl rfl (wo_nil (blockW_n (thenW_n (wc_seq (wc_region (wm rfl rfl (wm rfl rfl (wm rfl rfl ?_)))))))))
              refine wo_n rfl (nv_ixS (n := 1) rfl rfl rfl (by assumption)) rfl rfl (wm rfl rfl (wo_n rfl (nv_geqT rfl rfl rfl (by first | assumption | decide | omega)) rfl rfl (wp rfl rfl rfl (wm rfl rfl (wm rfl rfl (wo_n rfl (nv_ixS (n := 1) rfl rfl rfl (by assumption)) rfl rfl (wm rfl rfl (wo_n rfl (nv_leqF rfl rfl rfl (by first | assumption | decide | omega)) rfl rfl (wp rfl rfl rfl ?_)))))))))
              refine wa rfl rfl (wo_nil (thenW_n (wc_exit (blockW_x (thenW_n (wc_seq (wc_seq (wc_region (wm rfl rfl ?_)))))))))
              refine wo_n rfl (nv_not rfl rfl) rfl rfl (wo_nil (thenW_n (wc_true rfl (wc_seq (wc_region (wa rfl rfl (wo_nil (thenW_n (wc_ret ?_)))))))))
              refine thenW_r ?_
              refine endW_ret rfl rfl ?_
              exact ⟨rfl, by rw [hw]; rfl⟩
          · have hw : widM l = 0 := by rw [hl, hr]; simp [widM, hlm, secM, g1, ht_d]
            refine ev_of (fun m => hL.no _ _ m (by decide)) Tryd.func38 rfl rfl ?_
            refine wc_seq (wc_region (wa rfl rfl (wo_nil (thenW_n (wc_seq (wc_seq (wc_region (wm rfl rfl (wo_n rfl (nv_seqlF (u := txt []) rfl rfl (show _ = some (vs (txt [])) by kernel_rfl) (by assumption)) rfl rfl ?_)))))))))
            refine wo_nil (thenW_n (wc_false rfl (wc_skip (thenW_n (wc_seq (wc_region (wm rfl rfl (wo_n rfl (nv_ixS (n := 0) rfl rfl rfl (by assumption)) rfl rfl ?_))))))))
            refine wo_call rfl rfl (by kernel_rfl) (hld) rfl rfl ?_
            refine wm rfl rfl (wx rfl rfl rfl (wx rfl rfl rfl (wx rfl rfl rfl (wa rfl rfl (wa rfl rfl (wa rfl rfl (wo_nil (thenW_n (wc_seq ?_)))))))))
            refine wc_seq (wc_region (wm rfl rfl (wm rfl rfl ?_)))
            first
              | refine wo_n rfl (nv_lenL rfl rfl rfl) rfl rfl ?_
              | refine wo_n rfl (nv_lenT rfl rfl rfl) rfl rfl ?_
            refine wo_n rfl (nv_gtrF rfl rfl rfl (by first | assumption | decide | omega)) rfl rfl (wo_nil (thenW_n (wc_false rfl (wc_skip (thenW_n (wc_seq (wc_region (wa rfl rfl (wo_nil ?_)))))))))
            refine thenW_n (wc_seq (wc_seq (wc_region (wm rfl rfl (wo_nil (thenW_n (wc_block (wc_seq (wc_block ?_)))))))))
            refine wc_seq (wc_block (wc_seq (wc_block (wc_seq (wc_seq (wc_seq (wc_region (wo_n rfl (nv_eqlF rfl rfl rfl (by first | assumption | decide | omega)) rfl rfl (wa rfl rfl ?_)))))))))
            refine wo_nil (thenW_n (wc_false rfl (wc_skip (thenW_n (wc_seq (wc_seq (wc_region (wo_n rfl (nv_eqlT rfl rfl rfl (by first | assumption | decide | omega)) rfl rfl (wa rfl rfl ?_)))))))))
            refine wo_nil (thenW_n (wc_true rfl (wc_exit (thenW_x (thenW_x ?_)))))
            refine blockW_y rfl ?_
            refine thenW_x (blockW_x (thenW_n (wc_region (wm rfl rfl (wm rfl rfl (wm rfl rfl (wo_n rfl (nv_ixS (n := 2) rfl rfl rfl (by assumption)) rfl rfl ?_)))))))
            refine wo_call rfl rfl (by kernel_rfl) (t_d) rfl rfl ?_
            refine wp rfl rfl rfl (wa rfl rfl (wo_nil (blockW_n (thenW_n (wc_seq (wc_region (wm rfl rfl (wm rfl rfl (wm rfl rfl ?_)))))))))
            refine wo_n rfl (nv_ixS (n := 1) rfl rfl rfl (by assumption)) rfl rfl (wm rfl rfl (wo_n rfl (nv_geqF rfl rfl rfl (by first | assumption | decide | omega)) rfl rfl (wp rfl rfl rfl (wm rfl rfl (wg rfl (wg rfl (wg rfl (wg rfl (wq rfl rfl rfl ?_)))))))))
            refine wa rfl rfl (wo_nil (thenW_n (wc_exit (blockW_x (thenW_n (wc_seq (wc_seq (wc_region (wm rfl rfl ?_)))))))))
            refine wo_n rfl (nv_not rfl rfl) rfl rfl (wo_nil (thenW_n (wc_true rfl (wc_seq (wc_region (wa rfl rfl (wo_nil (thenW_n (wc_ret ?_)))))))))
            refine thenW_r ?_
            refine endW_ret rfl rfl ?_
            exact ⟨rfl, by rw [hw]; rfl⟩
      · have hw : widM l = 0 := by
          rw [hl]
          match r, hlen with
          | [], _ => simp [widM, hlm]
          | [_], _ => simp [widM, hlm]
          | _ :: _ :: _, h => simp at h; omega
        refine ev_of (fun m => hL.no _ _ m (by decide)) Tryd.func38 rfl rfl ?_
        refine wc_seq (wc_region (wa rfl rfl (wo_nil (thenW_n (wc_seq (wc_seq (wc_region (wm rfl rfl (wo_n rfl (nv_seqlF (u := txt []) rfl rfl (show _ = some (vs (txt [])) by kernel_rfl) (by assumption)) rfl rfl ?_)))))))))
        refine wo_nil (thenW_n (wc_false rfl (wc_skip (thenW_n (wc_seq (wc_region (wm rfl rfl (wo_n rfl (nv_ixS (n := 0) rfl rfl rfl (by assumption)) rfl rfl ?_))))))))
        refine wo_call rfl rfl (by kernel_rfl) (hld) rfl rfl ?_
        refine wm rfl rfl (wx rfl rfl rfl (wx rfl rfl rfl (wx rfl rfl rfl (wa rfl rfl (wa rfl rfl (wa rfl rfl (wo_nil (thenW_n (wc_seq ?_)))))))))
        refine wc_seq (wc_region (wm rfl rfl (wm rfl rfl ?_)))
        first
          | refine wo_n rfl (nv_lenL rfl rfl rfl) rfl rfl ?_
          | refine wo_n rfl (nv_lenT rfl rfl rfl) rfl rfl ?_
        refine wo_n rfl (nv_gtrT rfl rfl rfl (by first | assumption | decide | omega)) rfl rfl (wo_nil (thenW_n (wc_true rfl (wc_seq (wc_region (wa rfl rfl (wo_nil (thenW_n (wc_ret ?_)))))))))
        refine thenW_r ?_
        refine endW_ret rfl rfl ?_
        exact ⟨rfl, by rw [hw]; rfl⟩
    · by_cases hs : 4 ≤ l.length
      · skip
        obtain ⟨c, d, e, r', hr⟩ : ∃ c d e r', r = c :: d :: e :: r' := by
          match r, hlen with
          | c :: d :: e :: r', _ => exact ⟨_, _, _, r', rfl⟩
          | [], h => simp at h; omega
          | [_], h => simp at h; omega
          | [_, _], h => simp at h; omega
        have h1 : l[1]? = some c := by rw [hl, hr]; rfl
        have h2 : l[2]? = some d := by rw [hl, hr]; rfl
        have h3 : l[3]? = some e := by rw [hl, hr]; rfl
        have t_e := tail_spec (m := m) hL e
        cases ht_e : tailM e with
        | false =>
          rw [ht_e] at t_e
          have hw : widM l = 0 := by rw [hl, hr]; simp [widM, hlm, ht_e]
          refine ev_of (fun m => hL.no _ _ m (by decide)) Tryd.func38 rfl rfl ?_
          refine wc_seq (wc_region (wa rfl rfl (wo_nil (thenW_n (wc_seq (wc_seq (wc_region (wm rfl rfl (wo_n rfl (nv_seqlF (u := txt []) rfl rfl (show _ = some (vs (txt [])) by kernel_rfl) (by assumption)) rfl rfl ?_)))))))))
          refine wo_nil (thenW_n (wc_false rfl (wc_skip (thenW_n (wc_seq (wc_region (wm rfl rfl (wo_n rfl (nv_ixS (n := 0) rfl rfl rfl (by assumption)) rfl rfl ?_))))))))
          refine wo_call rfl rfl (by kernel_rfl) (hld) rfl rfl ?_
          refine wm rfl rfl (wx rfl rfl rfl (wx rfl rfl rfl (wx rfl rfl rfl (wa rfl rfl (wa rfl rfl (wa rfl rfl (wo_nil (thenW_n (wc_seq ?_)))))))))
          refine wc_seq (wc_region (wm rfl rfl (wm rfl rfl ?_)))
          first
            | refine wo_n rfl (nv_lenL rfl rfl rfl) rfl rfl ?_
            | refine wo_n rfl (nv_lenT rfl rfl rfl) rfl rfl ?_
          refine wo_n rfl (nv_gtrF rfl rfl rfl (by first | assumption | decide | omega)) rfl rfl (wo_nil (thenW_n (wc_false rfl (wc_skip (thenW_n (wc_seq (wc_region (wa rfl rfl (wo_nil ?_)))))))))
          refine thenW_n (wc_seq (wc_seq (wc_region (wm rfl rfl (wo_nil (thenW_n (wc_block (wc_seq (wc_block ?_)))))))))
          refine wc_seq (wc_block (wc_seq (wc_block (wc_seq (wc_seq (wc_seq (wc_region (wo_n rfl (nv_eqlT rfl rfl rfl (by first | assumption | decide | omega)) rfl rfl (wa rfl rfl ?_)))))))))
          refine wo_nil (thenW_n (wc_true rfl (wc_exit (thenW_x (thenW_x (blockW_x (thenW_n (wc_region (wm rfl rfl ?_)))))))))
          refine wo_n rfl (nv_ixS (n := 3) rfl rfl rfl (by assumption)) rfl rfl ?_
          refine wo_call rfl rfl (by kernel_rfl) (t_e) rfl rfl ?_
          refine wa rfl rfl (wo_nil (blockW_n (thenW_n (wc_region (wm rfl rfl (wm rfl rfl (wg rfl (wg rfl (wg rfl ?_)))))))))
          refine wq rfl rfl rfl (wa rfl rfl (wo_nil (blockW_n (thenW_n (wc_seq (wc_region (wm rfl rfl (wm rfl rfl (wg rfl ?_)))))))))
          refine wg rfl (wg rfl (wg rfl (wq rfl rfl rfl (wm rfl rfl (wg rfl (wg rfl (wg rfl (wg rfl (wq rfl rfl rfl ?_)))))))))
          refine wa rfl rfl (wo_nil (thenW_n (wc_exit (blockW_x (thenW_n (wc_seq (wc_seq (wc_region (wm rfl rfl ?_)))))))))
          refine wo_n rfl (nv_not rfl rfl) rfl rfl (wo_nil (thenW_n (wc_true rfl (wc_seq (wc_region (wa rfl rfl (wo_nil (thenW_n (wc_ret ?_)))))))))
          refine thenW_r ?_
          refine endW_ret rfl rfl ?_
          exact ⟨rfl, by rw [hw]; rfl⟩
        | true =>
          rw [ht_e] at t_e
          have t_d := tail_spec (m := m) hL d
          cases ht_d : tailM d with
          | false =>
            rw [ht_d] at t_d
            have hw : widM l = 0 := by rw [hl, hr]; simp [widM, hlm, ht_e, ht_d]
            refine ev_of (fun m => hL.no _ _ m (by decide)) Tryd.func38 rfl rfl ?_
            refine wc_seq (wc_region (wa rfl rfl (wo_nil (thenW_n (wc_seq (wc_seq (wc_region (wm rfl rfl (wo_n rfl (nv_seqlF (u := txt []) rfl rfl (show _ = some (vs (txt [])) by kernel_rfl) (by assumption)) rfl rfl ?_)))))))))
            refine wo_nil (thenW_n (wc_false rfl (wc_skip (thenW_n (wc_seq (wc_region (wm rfl rfl (wo_n rfl (nv_ixS (n := 0) rfl rfl rfl (by assumption)) rfl rfl ?_))))))))
            refine wo_call rfl rfl (by kernel_rfl) (hld) rfl rfl ?_
            refine wm rfl rfl (wx rfl rfl rfl (wx rfl rfl rfl (wx rfl rfl rfl (wa rfl rfl (wa rfl rfl (wa rfl rfl (wo_nil (thenW_n (wc_seq ?_)))))))))
            refine wc_seq (wc_region (wm rfl rfl (wm rfl rfl ?_)))
            first
              | refine wo_n rfl (nv_lenL rfl rfl rfl) rfl rfl ?_
              | refine wo_n rfl (nv_lenT rfl rfl rfl) rfl rfl ?_
            refine wo_n rfl (nv_gtrF rfl rfl rfl (by first | assumption | decide | omega)) rfl rfl (wo_nil (thenW_n (wc_false rfl (wc_skip (thenW_n (wc_seq (wc_region (wa rfl rfl (wo_nil ?_)))))))))
            refine thenW_n (wc_seq (wc_seq (wc_region (wm rfl rfl (wo_nil (thenW_n (wc_block (wc_seq (wc_block ?_)))))))))
            refine wc_seq (wc_block (wc_seq (wc_block (wc_seq (wc_seq (wc_seq (wc_region (wo_n rfl (nv_eqlT rfl rfl rfl (by first | assumption | decide | omega)) rfl rfl (wa rfl rfl ?_)))))))))
            refine wo_nil (thenW_n (wc_true rfl (wc_exit (thenW_x (thenW_x (blockW_x (thenW_n (wc_region (wm rfl rfl ?_)))))))))
            refine wo_n rfl (nv_ixS (n := 3) rfl rfl rfl (by assumption)) rfl rfl ?_
            refine wo_call rfl rfl (by kernel_rfl) (t_e) rfl rfl ?_
            refine wa rfl rfl (wo_nil (blockW_n (thenW_n (wc_region (wm rfl rfl (wm rfl rfl (wm rfl rfl (wo_n rfl (nv_ixS (n := 2) rfl rfl rfl (by assumption)) rfl rfl ?_))))))))
            refine wo_call rfl rfl (by kernel_rfl) (t_d) rfl rfl ?_
            refine wp rfl rfl rfl (wa rfl rfl (wo_nil (blockW_n (thenW_n (wc_seq (wc_region (wm rfl rfl (wm rfl rfl (wg rfl ?_)))))))))
            refine wg rfl (wg rfl (wg rfl (wq rfl rfl rfl (wm rfl rfl (wg rfl (wg rfl (wg rfl (wg rfl (wq rfl rfl rfl ?_)))))))))
            refine wa rfl rfl (wo_nil (thenW_n (wc_exit (blockW_x (thenW_n (wc_seq (wc_seq (wc_region (wm rfl rfl ?_)))))))))
            refine wo_n rfl (nv_not rfl rfl) rfl rfl (wo_nil (thenW_n (wc_true rfl (wc_seq (wc_region (wa rfl rfl (wo_nil (thenW_n (wc_ret ?_)))))))))
            refine thenW_r ?_
            refine endW_ret rfl rfl ?_
            exact ⟨rfl, by rw [hw]; rfl⟩
          | true =>
            rw [ht_d] at t_d
            by_cases g1 : lo ≤ c.toNat
            · by_cases g2 : c.toNat ≤ hi
              · have hw : widM l = 4 := by rw [hl, hr]; simp [widM, hlm, secM, g1, g2, ht_e, ht_d]
                refine ev_of (fun m => hL.no _ _ m (by decide)) Tryd.func38 rfl rfl ?_
                refine wc_seq (wc_region (wa rfl rfl (wo_nil (thenW_n (wc_seq (wc_seq (wc_region (wm rfl rfl (wo_n rfl (nv_seqlF (u := txt []) rfl rfl (show _ = some (vs (txt [])) by kernel_rfl) (by assumption)) rfl rfl ?_)))))))))
                refine wo_nil (thenW_n (wc_false rfl (wc_skip (thenW_n (wc_seq (wc_region (wm rfl rfl (wo_n rfl (nv_ixS (n := 0) rfl rfl rfl (by assumption)) rfl rfl ?_))))))))
                refine wo_call rfl rfl (by kernel_rfl) (hld) rfl rfl ?_
                refine wm rfl rfl (wx rfl rfl rfl (wx rfl rfl rfl (wx rfl rfl rfl (wa rfl rfl (wa rfl rfl (wa rfl rfl (wo_nil (thenW_n (wc_seq ?_)))))))))
                refine wc_seq (wc_region (wm rfl rfl (wm rfl rfl ?_)))
                first
                  | refine wo_n rfl (nv_lenL rfl rfl rfl) rfl rfl ?_
                  | refine wo_n rfl (nv_lenT rfl rfl rfl) rfl rfl ?_
                refine wo_n rfl (nv_gtrF rfl rfl rfl (by first | assumption | decide | omega)) rfl rfl (wo_nil (thenW_n (wc_false rfl (wc_skip (thenW_n (wc_seq (wc_region (wa rfl rfl (wo_nil ?_)))))))))
                refine thenW_n (wc_seq (wc_seq (wc_region (wm rfl rfl (wo_nil (thenW_n (wc_block (wc_seq (wc_block ?_)))))))))
                refine wc_seq (wc_block (wc_seq (wc_block (wc_seq (wc_seq (wc_seq (wc_region (wo_n rfl (nv_eqlT rfl rfl rfl (by first | assumption | decide | omega)) rfl rfl (wa rfl rfl ?_)))))))))
                refine wo_nil (thenW_n (wc_true rfl (wc_exit (thenW_x (thenW_x (blockW_x (thenW_n (wc_region (wm rfl rfl ?_)))))))))
                refine wo_n rfl (nv_ixS (n := 3) rfl rfl rfl (by assumption)) rfl rfl ?_
                refine wo_call rfl rfl (by kernel_rfl) (t_e) rfl rfl ?_
                refine wa rfl rfl (wo_nil (blockW_n (thenW_n (wc_region (wm rfl rfl (wm rfl rfl (wm rfl rfl (wo_n rfl (nv_ixS (n := 2) rfl rfl rfl (by assumption)) rfl rfl ?_))))))))
                refine wo_call rfl rfl (by kernel_rfl) (t_d) rfl rfl ?_
                refine wp rfl rfl rfl (wa rfl rfl (wo_nil (blockW_n (thenW_n (wc_seq (wc_region (wm rfl rfl (wm rfl rfl (wm rfl rfl ?_)))))))))
                refine wo_n rfl (nv_ixS (n := 1) rfl rfl rfl (by assumption)) rfl rfl (wm rfl rfl (wo_n rfl (nv_geqT rfl rfl rfl (by first | assumption | decide | omega)) rfl rfl (wp rfl rfl rfl (wm rfl rfl (wm rfl rfl (wo_n rfl (nv_ixS (n := 1) rfl rfl rfl (by assumption)) rfl rfl (wm rfl rfl (wo_n rfl (nv_leqT rfl rfl rfl (by first | assumption | decide | omega)) rfl rfl (wp rfl rfl rfl ?_)))))))))
                refine wa rfl rfl (wo_nil (thenW_n (wc_exit (blockW_x (thenW_n (wc_seq (wc_seq (wc_region (wm rfl rfl ?_)))))))))
                refine wo_n rfl (nv_not rfl rfl) rfl rfl (wo_nil (thenW_n (wc_false rfl (wc_skip (thenW_n (wc_seq (wc_region (wm rfl rfl (wa rfl rfl ?_)))))))))
                refine wo_nil (thenW_n (wc_ret ?_))
                refine endW_ret rfl rfl ?_
                exact ⟨rfl, by rw [hw]⟩
              · have hw : widM l = 0 := by rw [hl, hr]; simp [widM, hlm, secM, g1, g2, ht_e, ht_d]
                refine ev_of (fun m => hL.no _ _ m (by decide)) Tryd.func38 rfl rfl ?_
                refine wc_seq (wc_region (wa rfl rfl (wo_nil (thenW_n (wc_seq (wc_seq (wc_region (wm rfl rfl (wo_n rfl (nv_seqlF (u := txt []) rfl rfl (show _ = some (vs (txt [])) by kernel_rfl) (by assumption)) rfl rfl ?_)))))))))
                refine wo_nil (thenW_n (wc_false rfl (wc_skip (thenW_n (wc_seq (wc_region (wm rfl rfl (wo_n rfl (nv_ixS (n := 0) rfl rfl rfl (by assumption)) rfl rfl ?_))))))))
                refine wo_call rfl rfl (by kernel_rfl) (hld) rfl rfl ?_
                refine wm rfl rfl (wx rfl rfl rfl (wx rfl rfl rfl (wx rfl rfl rfl (wa rfl rfl (wa rfl rfl (wa rfl rfl (wo_nil (thenW_n (wc_seq ?_)))))))))
                refine wc_seq (wc_region (wm rfl rfl (wm rfl rfl ?_)))
                first
                  | refine wo_n rfl (nv_lenL rfl rfl rfl) rfl rfl ?_
                  | refine wo_n rfl (nv_lenT rfl rfl rfl) rfl rfl ?_
                refine wo_n rfl (nv_gtrF rfl rfl rfl (by first | assumption | decide | omega)) rfl rfl (wo_nil (thenW_n (wc_false rfl (wc_skip (thenW_n (wc_seq (wc_region (wa rfl rfl (wo_nil ?_)))))))))
                refine thenW_n (wc_seq (wc_seq (wc_region (wm rfl rfl (wo_nil (thenW_n (wc_block (wc_seq (wc_block ?_)))))))))
                refine wc_seq (wc_block (wc_seq (wc_block (wc_seq (wc_seq (wc_seq (wc_region (wo_n rfl (nv_eqlT rfl rfl rfl (by first | assumption | decide | omega)) rfl rfl (wa rfl rfl ?_)))))))))
                refine wo_nil (thenW_n (wc_true rfl (wc_exit (thenW_x (thenW_x (blockW_x (thenW_n (wc_region (wm rfl rfl ?_)))))))))
                refine wo_n rfl (nv_ixS (n := 3) rfl rfl rfl (by assumption)) rfl rfl ?_
                refine wo_call rfl rfl (by kernel_rfl) (t_e) rfl rfl ?_
                refine wa rfl rfl (wo_nil (blockW_n (thenW_n (wc_region (wm rfl rfl (wm rfl rfl (wm rfl rfl (wo_n rfl (nv_ixS (n := 2) rfl rfl rfl (by assumption)) rfl rfl ?_))))))))
                refine wo_call rfl rfl (by kernel_rfl) (t_d) rfl rfl ?_
                refine wp rfl rfl rfl (wa rfl rfl (wo_nil (blockW_n (thenW_n (wc_seq (wc_region (wm rfl rfl (wm rfl rfl (wm rfl rfl ?_)))))))))
                refine wo_n rfl (nv_ixS (n := 1) rfl rfl rfl (by assumption)) rfl rfl (wm rfl rfl (wo_n rfl (nv_geqT rfl rfl rfl (by first | assumption | decide | omega)) rfl rfl (wp rfl rfl rfl (wm rfl rfl (wm rfl rfl (wo_n rfl (nv_ixS (n := 1) rfl rfl rfl (by assumption)) rfl rfl (wm rfl rfl (wo_n rfl (nv_leqF rfl rfl rfl (by first | assumption | decide | omega)) rfl rfl (wp rfl rfl rfl ?_)))))))))
                refine wa rfl rfl (wo_nil (thenW_n (wc_exit (blockW_x (thenW_n (wc_seq (wc_seq (wc_region (wm rfl rfl ?_)))))))))
                refine wo_n rfl (nv_not rfl rfl) rfl rfl (wo_nil (thenW_n (wc_true rfl (wc_seq (wc_region (wa rfl rfl (wo_nil (thenW_n (wc_ret ?_)))))))))
                refine thenW_r ?_
                refine endW_ret rfl rfl ?_
                exact ⟨rfl, by rw [hw]; rfl⟩
            · have hw : widM l = 0 := by rw [hl, hr]; simp [widM, hlm, secM, g1, ht_e, ht_d]
              refine ev_of (fun m => hL.no _ _ m (by decide)) Tryd.func38 rfl rfl ?_
              refine wc_seq (wc_region (wa rfl rfl (wo_nil (thenW_n (wc_seq (wc_seq (wc_region (wm rfl rfl (wo_n rfl (nv_seqlF (u := txt []) rfl rfl (show _ = some (vs (txt [])) by kernel_rfl) (by assumption)) rfl rfl ?_)))))))))
              refine wo_nil (thenW_n (wc_false rfl (wc_skip (thenW_n (wc_seq (wc_region (wm rfl rfl (wo_n rfl (nv_ixS (n := 0) rfl rfl rfl (by assumption)) rfl rfl ?_))))))))
              refine wo_call rfl rfl (by kernel_rfl) (hld) rfl rfl ?_
              refine wm rfl rfl (wx rfl rfl rfl (wx rfl rfl rfl (wx rfl rfl rfl (wa rfl rfl (wa rfl rfl (wa rfl rfl (wo_nil (thenW_n (wc_seq ?_)))))))))
              refine wc_seq (wc_region (wm rfl rfl (wm rfl rfl ?_)))
              first
                | refine wo_n rfl (nv_lenL rfl rfl rfl) rfl rfl ?_
                | refine wo_n rfl (nv_lenT rfl rfl rfl) rfl rfl ?_
              refine wo_n rfl (nv_gtrF rfl rfl rfl (by first | assumption | decide | omega)) rfl rfl (wo_nil (thenW_n (wc_false rfl (wc_skip (thenW_n (wc_seq (wc_region (wa rfl rfl (wo_nil ?_)))))))))
              refine thenW_n (wc_seq (wc_seq (wc_region (wm rfl rfl (wo_nil (thenW_n (wc_block (wc_seq (wc_block ?_)))))))))
              refine wc_seq (wc_block (wc_seq (wc_block (wc_seq (wc_seq (wc_seq (wc_region (wo_n rfl (nv_eqlT rfl rfl rfl (by first | assumption | decide | omega)) rfl rfl (wa rfl rfl ?_)))))))))
              refine wo_nil (thenW_n (wc_true rfl (wc_exit (thenW_x (thenW_x (blockW_x (thenW_n (wc_region (wm rfl rfl ?_)))))))))
              refine wo_n rfl (nv_ixS (n := 3) rfl rfl rfl (by assumption)) rfl rfl ?_
              refine wo_call rfl rfl (by kernel_rfl) (t_e) rfl rfl ?_
              refine wa rfl rfl (wo_nil (blockW_n (thenW_n (wc_region (wm rfl rfl (wm rfl rfl (wm rfl rfl (wo_n rfl (nv_ixS (n := 2) rfl rfl rfl (by assumption)) rfl rfl ?_))))))))
              refine wo_call rfl rfl (by kernel_rfl) (t_d) rfl rfl ?_
              refine wp rfl rfl rfl (wa rfl rfl (wo_nil (blockW_n (thenW_n (wc_seq (wc_region (wm rfl rfl (wm rfl rfl (wm rfl rfl ?_)))))))))
              refine wo_n rfl (nv_ixS (n := 1) rfl rfl rfl (by assumption)) rfl rfl (wm rfl rfl (wo_n rfl (nv_geqF rfl rfl rfl (by first | assumption | decide | omega)) rfl rfl (wp rfl rfl rfl (wm rfl rfl (wg rfl (wg rfl (wg rfl (wg rfl (wq rfl rfl rfl ?_)))))))))
              refine wa rfl rfl (wo_nil (thenW_n (wc_exit (blockW_x (thenW_n (wc_seq (wc_seq (wc_region (wm rfl rfl ?_)))))))))
              refine wo_n rfl (nv_not rfl rfl) rfl rfl (wo_nil (thenW_n (wc_true rfl (wc_seq (wc_region (wa rfl rfl (wo_nil (thenW_n (wc_ret ?_)))))))))
              refine thenW_r ?_
              refine endW_ret rfl rfl ?_
              exact ⟨rfl, by rw [hw]; rfl⟩
      · have hw : widM l = 0 := by
          rw [hl]
          match r, hlen with
          | [], _ => simp [widM, hlm]
          | [_], _ => simp [widM, hlm]
          | [_, _], _ => simp [widM, hlm]
          | _ :: _ :: _ :: _, h => simp at h; omega
        refine ev_of (fun m => hL.no _ _ m (by decide)) Tryd.func38 rfl rfl ?_
        refine wc_seq (wc_region (wa rfl rfl (wo_nil (thenW_n (wc_seq (wc_seq (wc_region (wm rfl rfl (wo_n rfl (nv_seqlF (u := txt []) rfl rfl (show _ = some (vs (txt [])) by kernel_rfl) (by assumption)) rfl rfl ?_)))))))))
        refine wo_nil (thenW_n (wc_false rfl (wc_skip (thenW_n (wc_seq (wc_region (wm rfl rfl (wo_n rfl (nv_ixS (n := 0) rfl rfl rfl (by assumption)) rfl rfl ?_))))))))
        refine wo_call rfl rfl (by kernel_rfl) (hld) rfl rfl ?_
        refine wm rfl rfl (wx rfl rfl rfl (wx rfl rfl rfl (wx rfl rfl rfl (wa rfl rfl (wa rfl rfl (wa rfl rfl (wo_nil (thenW_n (wc_seq ?_)))))))))
        refine wc_seq (wc_region (wm rfl rfl (wm rfl rfl ?_)))
        first
          | refine wo_n rfl (nv_lenL rfl rfl rfl) rfl rfl ?_
          | refine wo_n rfl (nv_lenT rfl rfl rfl) rfl rfl ?_
        refine wo_n rfl (nv_gtrT rfl rfl rfl (by first | assumption | decide | omega)) rfl rfl (wo_nil (thenW_n (wc_true rfl (wc_seq (wc_region (wa rfl rfl (wo_nil (thenW_n (wc_ret ?_)))))))))
        refine thenW_r ?_
        refine endW_ret rfl rfl ?_
        exact ⟨rfl, by rw [hw]; rfl⟩
omit hL in
theorem widM_le (l : List UInt8) : widM l ≤ l.length := by
  unfold widM
  split
  · exact Nat.zero_le _
  · split
    · simp
    · split
      · split <;> simp
      · exact Nat.zero_le _
    · split
      · split <;> simp
      · exact Nat.zero_le _
    · split
      · split <;> simp
      · exact Nat.zero_le _
    · exact Nat.zero_le _
omit hL in
theorem badM_fuel : ∀ (f g p : Nat) (l : List UInt8), l.length ≤ f → l.length ≤ g → badM f p l = badM g p l := by
  intro f
  induction f with
  | zero =>
    intro g p l hf _
    have : l = [] := List.eq_nil_of_length_eq_zero (by omega)
    subst this
    cases g <;> rfl
  | succ f ih =>
    intro g p l hf hg
    cases l with
    | nil => cases g <;> rfl
    | cons c r =>
      obtain ⟨g, rfl⟩ : ∃ k, g = k + 1 := ⟨g - 1, by simp at hg; omega⟩
      simp only [badM]
      split
      · rfl
      · rename_i h0
        have : ((c :: r).drop (widM (c :: r))).length ≤ r.length := by rw [List.length_drop]; simp; omega
        simp at hf hg
        exact ih _ _ _ (by omega) (by omega)
theorem valid_spec (l : List UInt8) (hl : l.length ≤ 4096) : ∃ a : Int, Ev Tryd.prog xb ext 26 [vs (txt l)] m (.tup [.int .i64 a, .bool (badM l.length 0 l).isNone]) m ∧ (∀ i, badM l.length 0 l = some i → a = (i : Nat)) := by
  suffices hh : ∃ v m', Ev Tryd.prog xb ext 26 [vs (txt l)] m v m' ∧ (m' = m ∧ ∃ a : Int, v = .tup [.int .i64 a, .bool (badM l.length 0 l).isNone] ∧ (∀ i, badM l.length 0 l = some i → a = (i : Nat))) by
    obtain ⟨v, m', h1, rfl, a, rfl, h2⟩ := hh
    exact ⟨a, h1, h2⟩
  refine ev_of (fun m => hL.no _ _ m (by decide)) Tryd.func26 rfl rfl ?_
  refine wc_seq (wc_region (wa rfl rfl (wa rfl rfl (wo_nil (thenW_n (wc_seq (wc_seq (wc_region (wa rfl rfl ?_)))))))))
  refine wo_nil (thenW_n (wc_block ?_))
  refine wc_loop (fun q e m' => ∃ i : Nat, q = l.length - i ∧ i ≤ l.length ∧ m' = m ∧ ELe (envL [(0, vs (txt l)), (4, .int .i64 (i : Nat))]) e ∧ badM l.length 0 l = badM (l.length - i) i (l.drop i)) l.length ⟨0, rfl, by omega, rfl, ?_, rfl⟩ ?_
  · exact .cons rfl (.cons rfl (.nil _))
  rintro q e mj ⟨i, rfl, hi, rfl, he, hb⟩
  refine Wc.weak ?_ he
  rcases Nat.lt_or_ge i l.length with hlt | hge
  · obtain ⟨f, hf⟩ : ∃ f, l.length - i = f + 1 := ⟨l.length - i - 1, by omega⟩
    obtain ⟨c, r, hcr⟩ : ∃ c r, l.drop i = c :: r := ⟨l[i], l.drop (i + 1), List.drop_eq_getElem_cons hlt⟩
    have hw := width_spec (m := mj) hL (l.drop i)
    have hle := widM_le (l.drop i)
    rw [List.length_drop] at hle
    rw [hf] at hb
    by_cases h0 : widM (l.drop i) = 0
    · have hb' : badM l.length 0 l = some i := by rw [hb, hcr]; unfold badM; dsimp only; rw [← hcr, if_pos h0]
      refine wc_seq (wc_seq (wc_region (wm rfl rfl (wm rfl rfl ?_))))
      first
        | refine wo_n rfl (nv_lenL rfl rfl rfl) rfl rfl ?_
        | refine wo_n rfl (nv_lenT rfl rfl rfl) rfl rfl ?_
      refine wo_n rfl (nv_lssT rfl rfl rfl (by first | assumption | decide | omega)) rfl rfl (wo_nil (thenW_n (wc_true rfl (wc_skip (thenW_n (wc_block (wc_seq (wc_region (wm rfl rfl ?_)))))))))
      refine wm rfl rfl (wo_n rfl (nv_slF rfl rfl rfl (by first | assumption | (simp only [List.length_drop, List.length_take]; omega) | omega)) rfl rfl ?_)
      refine wo_call rfl rfl (by kernel_rfl) (hw) rfl rfl ?_
      refine wa rfl rfl (wo_nil (thenW_n (wc_seq (wc_seq (wc_region (wm rfl rfl (wo_n rfl (nv_eqlT rfl rfl rfl (by first | assumption | decide | omega)) rfl rfl (wo_nil (thenW_n ?_)))))))))
      refine wc_true rfl (wc_seq (wc_region (wm rfl rfl (wa rfl rfl (wa rfl rfl (wo_nil (thenW_n (wc_ret (thenW_r ?_)))))))))
      refine blockW_r ?_
      refine blockW_r (thenW_r ?_)
      refine endW_many (by intro i hi; cases hi) rfl (rs := [.tmp 2, .tmp 3]) (.tmp rfl (.tmp rfl .nil)) (by simp) ?_
      exact ⟨rfl, _, by rw [hb']; rfl, fun j hj => by rw [hb'] at hj; cases hj; rfl⟩
    · skip
      refine wc_seq (wc_seq (wc_region (wm rfl rfl (wm rfl rfl ?_))))
      first
        | refine wo_n rfl (nv_lenL rfl rfl rfl) rfl rfl ?_
        | refine wo_n rfl (nv_lenT rfl rfl rfl) rfl rfl ?_
      refine wo_n rfl (nv_lssT rfl rfl rfl (by first | assumption | decide | omega)) rfl rfl (wo_nil (thenW_n (wc_true rfl (wc_skip (thenW_n (wc_block (wc_seq (wc_region (wm rfl rfl ?_)))))))))
      refine wm rfl rfl (wo_n rfl (nv_slF rfl rfl rfl (by first | assumption | (simp only [List.length_drop, List.length_take]; omega) | omega)) rfl rfl ?_)
      refine wo_call rfl rfl (by kernel_rfl) (hw) rfl rfl ?_
      refine wa rfl rfl (wo_nil (thenW_n (wc_seq (wc_seq (wc_region (wm rfl rfl (wo_n rfl (nv_eqlF rfl rfl rfl (by first | assumption | decide | omega)) rfl rfl (wo_nil (thenW_n ?_)))))))))
      refine wc_false rfl (wc_skip (thenW_n (wc_region (wm rfl rfl (wm rfl rfl ?_)))))
      refine wo_n rfl (nv_add rfl rfl rfl rfl (by first | decide | omega) (by first | decide | omega)) rfl rfl ?_
      refine wa rfl rfl (wo_nil (blockW_n ?_))
      refine ⟨l.length - (i + widM (l.drop i)), by omega, i + widM (l.drop i), rfl, by omega, rfl, .cons rfl (.cons rfl (.nil _)), ?_⟩
      have e1 : badM (f + 1) i (l.drop i) = badM f (i + widM (l.drop i)) ((l.drop i).drop (widM (l.drop i))) := by
        rw [hcr]; simp only [badM]; rw [← hcr, if_neg h0]
      rw [hb, e1, List.drop_drop]
      exact badM_fuel _ _ _ _ (by rw [List.length_drop]; omega) (by rw [List.length_drop]; omega)
  · have : i = l.length := by omega
    subst this
    have hb' : badM l.length 0 l = none := by rw [hb, Nat.sub_self]; rfl
    refine wc_seq (wc_seq (wc_region (wm rfl rfl (wm rfl rfl ?_))))
    first
      | refine wo_n rfl (nv_lenL rfl rfl rfl) rfl rfl ?_
      | refine wo_n rfl (nv_lenT rfl rfl rfl) rfl rfl ?_
    refine wo_n rfl (nv_lssF rfl rfl rfl (by first | assumption | decide | omega)) rfl rfl (wo_nil (thenW_n (wc_false rfl (wc_exit (thenW_x ?_)))))
    refine blockW_x (thenW_n (wc_seq (wc_region (wa rfl rfl (wa rfl rfl (wo_nil (thenW_n (wc_ret ?_))))))))
    refine endW_many (by intro i hi; cases hi) rfl (rs := [.tmp 2, .tmp 3]) (.tmp rfl (.tmp rfl .nil)) (by simp) ?_
    exact ⟨rfl, _, by rw [hb']; rfl, fun j hj => by rw [hb'] at hj; cases hj⟩
end
end Go.Proofs.YtppcjlplihiiiaaDoor.Sy
