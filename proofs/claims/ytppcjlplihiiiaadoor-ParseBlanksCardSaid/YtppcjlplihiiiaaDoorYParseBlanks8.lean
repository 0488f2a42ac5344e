/- Several texts in one: contracts of functions of the program, and what they lean on. In part written by a program of this session over the kit's print, in part by hand. -/
import Derived.Test.YtppcjlplihiiiaaDoorYParseBlanks7
import Derived.Test.YtppcjlplihiiiaaDoorYParseBlanks5
import Derived.Test.YtppcjlplihiiiaaDoorYParseBlanks6
import Derived.Test.YtppcjlplihiiiaaDoorYParseBlanks4
namespace Go.Proofs.YtppcjlplihiiiaaDoor.Sy
open Go Go.Ev Go.Ev.Pm Go.Ev.Lm
set_option linter.unusedVariables false
set_option linter.unusedSimpArgs false
set_option linter.unusedSectionVars false
def TokV (r : TR) (v : V) : Prop := match r with
  | .err c => v = .tup [.agg [.int .i64 0, .str 0 0, .int .i64 0, .int .i64 0], .int .i64 0, .iface 28 (.int .i64 c)]
  | .ok k s num n => v = .tup [.agg [.int .i64 k, vs (txt s), .int .i64 num, .int .i64 0], .int .i64 (n : Nat), .nili]
theorem fr_new {m m1 m2 : Mem} {g : Nat} {el : Nat} {cs : List V} (f : Fr F0 m m1) (k : Fr (fun q => q = g) m1 m2) (b : Blok m1 g el cs) (h : m.next ≤ g) : Fr F0 m m2 :=
  ⟨fun w => k.nw (f.nw w), k.gl.trans f.gl, Nat.le_trans f.le k.le, fun q hq _ => by
    obtain ⟨e1, e2⟩ := f.eq q hq (fun h => h)
    obtain ⟨e3, e4⟩ := k.eq q (Nat.lt_of_lt_of_le hq f.le) (fun e => by omega)
    exact ⟨e3.trans e1, e4.trans e2⟩⟩
section
variable {m : Mem} {xb : XB} {ext : CallF} (hL : LH xb ext)
include hL
set_option maxHeartbeats 1000000 in
theorem token_spec (hg : Good m.gl) (l : List UInt8) (h1 : l ≠ []) (hl : l.length ≤ 4096) : ∃ v m', Ev Tryd.prog xb ext 29 [vs (txt l)] m v m' ∧ (Fr F0 m m' ∧ TokV (tokM l) v) := by
  obtain ⟨c0, r0, hcr⟩ : ∃ c r, l = c :: r := by
    cases l with
    | nil => exact absurd rfl h1
    | cons c r => exact ⟨c, r, rfl⟩
  have hl0 : l[0]? = some c0 := by rw [hcr]; rfl
  have hmm : (fun c => decide (c ∈ moreL)) = isMore := funext mem_more
  have hwl : (l.takeWhile isMore).length ≤ l.length := by
    have := List.takeWhile_sublist isMore (l := l)
    exact this.length_le
  have hlen1 : 1 ≤ l.length := by rw [hcr]; simp
  have hrun : ∀ m, Ev Tryd.prog xb ext 41 [vs (txt l), vs (txt moreL)] m (vs (txt (l.takeWhile isMore))) m := fun m => by
    have := run_spec (m := m) hL l moreL hl
    rw [hmm] at this
    exact this
  have hp1 : ∀ m, Ev Tryd.prog xb ext 42 [vs (txt l), vs (txt [45, 62])] m (.bool (hasP [45, 62] l)) m := fun m => prefix_spec (m := m) hL l [45, 62] hl
  have hp2 : ∀ m, Ev Tryd.prog xb ext 42 [vs (txt l), vs (txt [61, 61])] m (.bool (hasP [61, 61] l)) m := fun m => prefix_spec (m := m) hL l [61, 61] hl
  have hsg : ∀ m, Ev Tryd.prog xb ext 27 [.int .u8 (c0.toNat : Nat), vs (txt signsL)] m (.bool (isSign c0)) m := fun m => by
    have := of_spec (m := m) hL signsL c0
    rw [mem_signs] at this
    exact this
  have h2len : ∀ a b, hasP [a, b] l = true → 2 ≤ l.length := fun a b h => by
    unfold hasP at h
    simp only [beq_iff_eq] at h
    have := congrArg List.length h
    simp [List.length_take] at this
    omega
  have hsgn : sgnM l = if isSign c0 then (if hasP [45, 62] l || hasP [61, 61] l then .ok 3 (l.take 2) 0 2 else .ok 3 (l.take 1) 0 1) else .err 201 := by
    subst hcr
    rfl
  generalize hw : l.takeWhile isMore = w at hrun hwl
  cases hwc : w with
  | nil =>
    rw [hwc] at hrun
    have hnil : txt [] = txt [] := rfl
    have htm : tokM l = sgnM l := by unfold tokM; rw [hw, hwc]
    cases q1 : hasP [45, 62] l with
    | true =>
      have q1' := fun m => q1 ▸ hp1 m
      cases q3 : isSign c0 with
      | true =>
        have q3' := fun m => q3 ▸ hsg m
        have hn2 : 2 ≤ l.length := h2len _ _ (by assumption)
        refine ev_of (fun m => hL.no _ _ m (by decide)) Tryd.func29 rfl rfl ?_
        refine wc_seq (wc_region ?_)
        refine wo_alloc rfl rfl rfl rfl ?_
        intro g1 m1 o1 f1 l1
        have a1 := o1
        have fa := f1
        refine wa rfl rfl (wa rfl rfl (wo_nil (thenW_n (wc_seq (wc_region (wm rfl rfl ?_))))))
        refine wo_call rfl rfl (by kernel_rfl) (hrun _) rfl rfl ?_
        refine wa rfl rfl (wo_nil (thenW_n (wc_seq (wc_block (wc_seq (wc_region (wm rfl rfl (wo_n rfl (nv_seqlT (u := txt []) rfl rfl (show _ = some (vs (txt [])) by kernel_rfl) (by assumption)) rfl rfl (wm rfl rfl ?_)))))))))
        refine wg rfl (wg rfl (wg rfl (wp rfl rfl rfl (wa rfl rfl (wo_nil (thenW_n (wc_true rfl (wc_seq (wc_region ?_)))))))))
        refine wa rfl rfl (wo_nil (thenW_n (wc_seq (wc_seq (wc_region (wm rfl rfl ?_))))))
        refine wo_call rfl rfl (by kernel_rfl) (q1' _) rfl rfl ?_
        refine wm rfl rfl (wg rfl (wg rfl (wp rfl rfl rfl (wo_nil (thenW_n (wc_true rfl (wc_region (wa rfl rfl (wo_nil ?_)))))))))
        refine thenW_n (wc_seq (wc_seq (wc_region (wm rfl rfl (wo_n rfl (nv_ixS (n := 0) rfl rfl rfl (by assumption)) rfl rfl ?_)))))
        refine wo_call rfl rfl (by kernel_rfl) (q3' _) rfl rfl ?_
        refine wo_n rfl (nv_not rfl rfl) rfl rfl (wo_nil (thenW_n (wc_false rfl (wc_skip (thenW_n (wc_seq (wc_region (wm rfl rfl (wm rfl rfl ?_)))))))))
        refine wo_n rfl (nv_slT rfl rfl rfl (by first | assumption | (simp only [List.length_drop, List.length_take]; omega) | omega)) rfl rfl (wo_n rfl (nv_buildS rfl rfl rfl) rfl rfl (wm rfl rfl ?_))
        refine wo_store rfl rfl rfl rfl (by assumption) rfl rfl (Nat.le_of_ble_eq_true rfl) rfl ?_
        intro m2 o2 f2 n2
        have x9 := o2.rowAll (n := 4) rfl
        have f9 := f2
        refine wa rfl rfl (wa rfl rfl (wo_nil (thenW_n (wc_ret (blockW_r (thenW_r ?_))))))
        refine endW_many (by intro i hi; cases hi) rfl (rs := [.cell 2 62, .tmp 3, .tmp 4]) (.cell rfl (by assumption) (.tmp rfl (.tmp rfl .nil))) (by simp) ?_
        refine ⟨fr_new fa f9 a1 l1, ?_⟩
        rw [htm, hsgn, q3, q1]
        rfl
      | false =>
        have q3' := fun m => q3 ▸ hsg m
        refine ev_of (fun m => hL.no _ _ m (by decide)) Tryd.func29 rfl rfl ?_
        refine wc_seq (wc_region ?_)
        refine wo_alloc rfl rfl rfl rfl ?_
        intro g1 m1 o1 f1 l1
        have a1 := o1
        have fa := f1
        refine wa rfl rfl (wa rfl rfl (wo_nil (thenW_n (wc_seq (wc_region (wm rfl rfl ?_))))))
        refine wo_call rfl rfl (by kernel_rfl) (hrun _) rfl rfl ?_
        refine wa rfl rfl (wo_nil (thenW_n (wc_seq (wc_block (wc_seq (wc_region (wm rfl rfl (wo_n rfl (nv_seqlT (u := txt []) rfl rfl (show _ = some (vs (txt [])) by kernel_rfl) (by assumption)) rfl rfl (wm rfl rfl ?_)))))))))
        refine wg rfl (wg rfl (wg rfl (wp rfl rfl rfl (wa rfl rfl (wo_nil (thenW_n (wc_true rfl (wc_seq (wc_region ?_)))))))))
        refine wa rfl rfl (wo_nil (thenW_n (wc_seq (wc_seq (wc_region (wm rfl rfl ?_))))))
        refine wo_call rfl rfl (by kernel_rfl) (q1' _) rfl rfl ?_
        refine wm rfl rfl (wg rfl (wg rfl (wp rfl rfl rfl (wo_nil (thenW_n (wc_true rfl (wc_region (wa rfl rfl (wo_nil ?_)))))))))
        refine thenW_n (wc_seq (wc_seq (wc_region (wm rfl rfl (wo_n rfl (nv_ixS (n := 0) rfl rfl rfl (by assumption)) rfl rfl ?_)))))
        refine wo_call rfl rfl (by kernel_rfl) (q3' _) rfl rfl ?_
        refine wo_n rfl (nv_not rfl rfl) rfl rfl (wo_nil (thenW_n (wc_true rfl (wc_seq (wc_region (wo_n rfl (nv_buildS rfl rfl rfl) rfl rfl ?_))))))
        refine wo_n rfl (nv_mkI rfl rfl) rfl rfl ?_
        refine wo_store rfl rfl rfl rfl (by assumption) rfl rfl (Nat.le_of_ble_eq_true rfl) rfl ?_
        intro m2 o2 f2 n2
        have x9 := o2.rowAll (n := 4) rfl
        have f9 := f2
        refine wa rfl rfl (wa rfl rfl (wo_nil (thenW_n (wc_ret (thenW_r (blockW_r (thenW_r ?_)))))))
        refine endW_many (by intro i hi; cases hi) rfl (rs := [.cell 2 62, .tmp 3, .tmp 4]) (.cell rfl (by assumption) (.tmp rfl (.tmp rfl .nil))) (by simp) ?_
        refine ⟨fr_new fa f9 a1 l1, ?_⟩
        rw [htm, hsgn, q3]
        rfl
    | false =>
      have q1' := fun m => q1 ▸ hp1 m
      cases q2 : hasP [61, 61] l with
      | true =>
        have q2' := fun m => q2 ▸ hp2 m
        cases q3 : isSign c0 with
        | true =>
          have q3' := fun m => q3 ▸ hsg m
          have hn2 : 2 ≤ l.length := h2len _ _ (by assumption)
          refine ev_of (fun m => hL.no _ _ m (by decide)) Tryd.func29 rfl rfl ?_
          refine wc_seq (wc_region ?_)
          refine wo_alloc rfl rfl rfl rfl ?_
          intro g1 m1 o1 f1 l1
          have a1 := o1
          have fa := f1
          refine wa rfl rfl (wa rfl rfl (wo_nil (thenW_n (wc_seq (wc_region (wm rfl rfl ?_))))))
          refine wo_call rfl rfl (by kernel_rfl) (hrun _) rfl rfl ?_
          refine wa rfl rfl (wo_nil (thenW_n (wc_seq (wc_block (wc_seq (wc_region (wm rfl rfl (wo_n rfl (nv_seqlT (u := txt []) rfl rfl (show _ = some (vs (txt [])) by kernel_rfl) (by assumption)) rfl rfl (wm rfl rfl ?_)))))))))
          refine wg rfl (wg rfl (wg rfl (wp rfl rfl rfl (wa rfl rfl (wo_nil (thenW_n (wc_true rfl (wc_seq (wc_region ?_)))))))))
          refine wa rfl rfl (wo_nil (thenW_n (wc_seq (wc_seq (wc_region (wm rfl rfl ?_))))))
          refine wo_call rfl rfl (by kernel_rfl) (q1' _) rfl rfl ?_
          refine wm rfl rfl (wm rfl rfl ?_)
          refine wo_call rfl rfl (by kernel_rfl) (q2' _) rfl rfl ?_
          refine wq rfl rfl rfl (wo_nil (thenW_n (wc_true rfl (wc_region (wa rfl rfl (wo_nil (thenW_n (wc_seq (wc_seq ?_)))))))))
          refine wc_region (wm rfl rfl (wo_n rfl (nv_ixS (n := 0) rfl rfl rfl (by assumption)) rfl rfl ?_))
          refine wo_call rfl rfl (by kernel_rfl) (q3' _) rfl rfl ?_
          refine wo_n rfl (nv_not rfl rfl) rfl rfl (wo_nil (thenW_n (wc_false rfl (wc_skip (thenW_n (wc_seq (wc_region (wm rfl rfl (wm rfl rfl ?_)))))))))
          refine wo_n rfl (nv_slT rfl rfl rfl (by first | assumption | (simp only [List.length_drop, List.length_take]; omega) | omega)) rfl rfl (wo_n rfl (nv_buildS rfl rfl rfl) rfl rfl (wm rfl rfl ?_))
          refine wo_store rfl rfl rfl rfl (by assumption) rfl rfl (Nat.le_of_ble_eq_true rfl) rfl ?_
          intro m2 o2 f2 n2
          have x9 := o2.rowAll (n := 4) rfl
          have f9 := f2
          refine wa rfl rfl (wa rfl rfl (wo_nil (thenW_n (wc_ret (blockW_r (thenW_r ?_))))))
          refine endW_many (by intro i hi; cases hi) rfl (rs := [.cell 2 62, .tmp 3, .tmp 4]) (.cell rfl (by assumption) (.tmp rfl (.tmp rfl .nil))) (by simp) ?_
          refine ⟨fr_new fa f9 a1 l1, ?_⟩
          rw [htm, hsgn, q3, q1, q2]
          rfl
        | false =>
          have q3' := fun m => q3 ▸ hsg m
          refine ev_of (fun m => hL.no _ _ m (by decide)) Tryd.func29 rfl rfl ?_
          refine wc_seq (wc_region ?_)
          refine wo_alloc rfl rfl rfl rfl ?_
          intro g1 m1 o1 f1 l1
          have a1 := o1
          have fa := f1
          refine wa rfl rfl (wa rfl rfl (wo_nil (thenW_n (wc_seq (wc_region (wm rfl rfl ?_))))))
          refine wo_call rfl rfl (by kernel_rfl) (hrun _) rfl rfl ?_
          refine wa rfl rfl (wo_nil (thenW_n (wc_seq (wc_block (wc_seq (wc_region (wm rfl rfl (wo_n rfl (nv_seqlT (u := txt []) rfl rfl (show _ = some (vs (txt [])) by kernel_rfl) (by assumption)) rfl rfl (wm rfl rfl ?_)))))))))
          refine wg rfl (wg rfl (wg rfl (wp rfl rfl rfl (wa rfl rfl (wo_nil (thenW_n (wc_true rfl (wc_seq (wc_region ?_)))))))))
          refine wa rfl rfl (wo_nil (thenW_n (wc_seq (wc_seq (wc_region (wm rfl rfl ?_))))))
          refine wo_call rfl rfl (by kernel_rfl) (q1' _) rfl rfl ?_
          refine wm rfl rfl (wm rfl rfl ?_)
          refine wo_call rfl rfl (by kernel_rfl) (q2' _) rfl rfl ?_
          refine wq rfl rfl rfl (wo_nil (thenW_n (wc_true rfl (wc_region (wa rfl rfl (wo_nil (thenW_n (wc_seq (wc_seq ?_)))))))))
          refine wc_region (wm rfl rfl (wo_n rfl (nv_ixS (n := 0) rfl rfl rfl (by assumption)) rfl rfl ?_))
          refine wo_call rfl rfl (by kernel_rfl) (q3' _) rfl rfl ?_
          refine wo_n rfl (nv_not rfl rfl) rfl rfl (wo_nil (thenW_n (wc_true rfl (wc_seq (wc_region (wo_n rfl (nv_buildS rfl rfl rfl) rfl rfl ?_))))))
          refine wo_n rfl (nv_mkI rfl rfl) rfl rfl ?_
          refine wo_store rfl rfl rfl rfl (by assumption) rfl rfl (Nat.le_of_ble_eq_true rfl) rfl ?_
          intro m2 o2 f2 n2
          have x9 := o2.rowAll (n := 4) rfl
          have f9 := f2
          refine wa rfl rfl (wa rfl rfl (wo_nil (thenW_n (wc_ret (thenW_r (blockW_r (thenW_r ?_)))))))
          refine endW_many (by intro i hi; cases hi) rfl (rs := [.cell 2 62, .tmp 3, .tmp 4]) (.cell rfl (by assumption) (.tmp rfl (.tmp rfl .nil))) (by simp) ?_
          refine ⟨fr_new fa f9 a1 l1, ?_⟩
          rw [htm, hsgn, q3]
          rfl
      | false =>
        have q2' := fun m => q2 ▸ hp2 m
        cases q3 : isSign c0 with
        | true =>
          have q3' := fun m => q3 ▸ hsg m
          refine ev_of (fun m => hL.no _ _ m (by decide)) Tryd.func29 rfl rfl ?_
          refine wc_seq (wc_region ?_)
          refine wo_alloc rfl rfl rfl rfl ?_
          intro g1 m1 o1 f1 l1
          have a1 := o1
          have fa := f1
          refine wa rfl rfl (wa rfl rfl (wo_nil (thenW_n (wc_seq (wc_region (wm rfl rfl ?_))))))
          refine wo_call rfl rfl (by kernel_rfl) (hrun _) rfl rfl ?_
          refine wa rfl rfl (wo_nil (thenW_n (wc_seq (wc_block (wc_seq (wc_region (wm rfl rfl (wo_n rfl (nv_seqlT (u := txt []) rfl rfl (show _ = some (vs (txt [])) by kernel_rfl) (by assumption)) rfl rfl (wm rfl rfl ?_)))))))))
          refine wg rfl (wg rfl (wg rfl (wp rfl rfl rfl (wa rfl rfl (wo_nil (thenW_n (wc_true rfl (wc_seq (wc_region ?_)))))))))
          refine wa rfl rfl (wo_nil (thenW_n (wc_seq (wc_seq (wc_region (wm rfl rfl ?_))))))
          refine wo_call rfl rfl (by kernel_rfl) (q1' _) rfl rfl ?_
          refine wm rfl rfl (wm rfl rfl ?_)
          refine wo_call rfl rfl (by kernel_rfl) (q2' _) rfl rfl ?_
          refine wq rfl rfl rfl (wo_nil (thenW_n (wc_false rfl (wc_skip (thenW_n (wc_seq (wc_seq (wc_region (wm rfl rfl ?_)))))))))
          refine wo_n rfl (nv_ixS (n := 0) rfl rfl rfl (by assumption)) rfl rfl ?_
          refine wo_call rfl rfl (by kernel_rfl) (q3' _) rfl rfl ?_
          refine wo_n rfl (nv_not rfl rfl) rfl rfl (wo_nil (thenW_n (wc_false rfl (wc_skip (thenW_n (wc_seq (wc_region (wm rfl rfl (wm rfl rfl ?_)))))))))
          refine wo_n rfl (nv_slT rfl rfl rfl (by first | assumption | (simp only [List.length_drop, List.length_take]; omega) | omega)) rfl rfl (wo_n rfl (nv_buildS rfl rfl rfl) rfl rfl (wm rfl rfl ?_))
          refine wo_store rfl rfl rfl rfl (by assumption) rfl rfl (Nat.le_of_ble_eq_true rfl) rfl ?_
          intro m2 o2 f2 n2
          have x9 := o2.rowAll (n := 4) rfl
          have f9 := f2
          refine wa rfl rfl (wa rfl rfl (wo_nil (thenW_n (wc_ret (blockW_r (thenW_r ?_))))))
          refine endW_many (by intro i hi; cases hi) rfl (rs := [.cell 2 62, .tmp 3, .tmp 4]) (.cell rfl (by assumption) (.tmp rfl (.tmp rfl .nil))) (by simp) ?_
          refine ⟨fr_new fa f9 a1 l1, ?_⟩
          rw [htm, hsgn, q3, q1, q2]
          rfl
        | false =>
          have q3' := fun m => q3 ▸ hsg m
          refine ev_of (fun m => hL.no _ _ m (by decide)) Tryd.func29 rfl rfl ?_
          refine wc_seq (wc_region ?_)
          refine wo_alloc rfl rfl rfl rfl ?_
          intro g1 m1 o1 f1 l1
          have a1 := o1
          have fa := f1
          refine wa rfl rfl (wa rfl rfl (wo_nil (thenW_n (wc_seq (wc_region (wm rfl rfl ?_))))))
          refine wo_call rfl rfl (by kernel_rfl) (hrun _) rfl rfl ?_
          refine wa rfl rfl (wo_nil (thenW_n (wc_seq (wc_block (wc_seq (wc_region (wm rfl rfl (wo_n rfl (nv_seqlT (u := txt []) rfl rfl (show _ = some (vs (txt [])) by kernel_rfl) (by assumption)) rfl rfl (wm rfl rfl ?_)))))))))
          refine wg rfl (wg rfl (wg rfl (wp rfl rfl rfl (wa rfl rfl (wo_nil (thenW_n (wc_true rfl (wc_seq (wc_region ?_)))))))))
          refine wa rfl rfl (wo_nil (thenW_n (wc_seq (wc_seq (wc_region (wm rfl rfl ?_))))))
          refine wo_call rfl rfl (by kernel_rfl) (q1' _) rfl rfl ?_
          refine wm rfl rfl (wm rfl rfl ?_)
          refine wo_call rfl rfl (by kernel_rfl) (q2' _) rfl rfl ?_
          refine wq rfl rfl rfl (wo_nil (thenW_n (wc_false rfl (wc_skip (thenW_n (wc_seq (wc_seq (wc_region (wm rfl rfl ?_)))))))))
          refine wo_n rfl (nv_ixS (n := 0) rfl rfl rfl (by assumption)) rfl rfl ?_
          refine wo_call rfl rfl (by kernel_rfl) (q3' _) rfl rfl ?_
          refine wo_n rfl (nv_not rfl rfl) rfl rfl (wo_nil (thenW_n (wc_true rfl (wc_seq (wc_region (wo_n rfl (nv_buildS rfl rfl rfl) rfl rfl ?_))))))
          refine wo_n rfl (nv_mkI rfl rfl) rfl rfl ?_
          refine wo_store rfl rfl rfl rfl (by assumption) rfl rfl (Nat.le_of_ble_eq_true rfl) rfl ?_
          intro m2 o2 f2 n2
          have x9 := o2.rowAll (n := 4) rfl
          have f9 := f2
          refine wa rfl rfl (wa rfl rfl (wo_nil (thenW_n (wc_ret (thenW_r (blockW_r (thenW_r ?_)))))))
          refine endW_many (by intro i hi; cases hi) rfl (rs := [.cell 2 62, .tmp 3, .tmp 4]) (.cell rfl (by assumption) (.tmp rfl (.tmp rfl .nil))) (by simp) ?_
          refine ⟨fr_new fa f9 a1 l1, ?_⟩
          rw [htm, hsgn, q3]
          rfl
  | cons c w' =>
    have hne : txt w ≠ txt [] := fun e => by have := txt_inj e; rw [hwc] at this; cases this
    have hw0 : w[0]? = some c := by rw [hwc]; rfl
    have hwl' : w'.length + 1 = w.length := by rw [hwc]; rfl
    have hwb : w.length ≤ 4096 := by omega
    by_cases h95 : c.toNat = 95
    · have h95' : c = 95 := UInt8.toNat_inj.1 h95
      have htm : tokM l = sgnM l := by unfold tokM; rw [hw, hwc]; dsimp only; rw [if_pos h95']
      cases q1 : hasP [45, 62] l with
      | true =>
        have q1' := fun m => q1 ▸ hp1 m
        cases q3 : isSign c0 with
        | true =>
          have q3' := fun m => q3 ▸ hsg m
          have hn2 : 2 ≤ l.length := h2len _ _ (by assumption)
          refine ev_of (fun m => hL.no _ _ m (by decide)) Tryd.func29 rfl rfl ?_
          refine wc_seq (wc_region ?_)
          refine wo_alloc rfl rfl rfl rfl ?_
          intro g1 m1 o1 f1 l1
          have a1 := o1
          have fa := f1
          refine wa rfl rfl (wa rfl rfl (wo_nil (thenW_n (wc_seq (wc_region (wm rfl rfl ?_))))))
          refine wo_call rfl rfl (by kernel_rfl) (hrun _) rfl rfl ?_
          refine wa rfl rfl (wo_nil (thenW_n (wc_seq (wc_block (wc_seq (wc_region (wm rfl rfl (wo_n rfl (nv_seqlF (u := txt []) rfl rfl (show _ = some (vs (txt [])) by kernel_rfl) (by assumption)) rfl rfl (wm rfl rfl ?_)))))))))
          refine wm rfl rfl (wo_n rfl (nv_ixS (n := 0) rfl rfl rfl (by assumption)) rfl rfl (wo_n rfl (nv_eqlT rfl rfl rfl (by first | assumption | decide | omega)) rfl rfl (wq rfl rfl rfl (wa rfl rfl (wo_nil (thenW_n (wc_true rfl (wc_seq (wc_region ?_)))))))))
          refine wa rfl rfl (wo_nil (thenW_n (wc_seq (wc_seq (wc_region (wm rfl rfl ?_))))))
          refine wo_call rfl rfl (by kernel_rfl) (q1' _) rfl rfl ?_
          refine wm rfl rfl (wg rfl (wg rfl (wp rfl rfl rfl (wo_nil (thenW_n (wc_true rfl (wc_region (wa rfl rfl (wo_nil ?_)))))))))
          refine thenW_n (wc_seq (wc_seq (wc_region (wm rfl rfl (wo_n rfl (nv_ixS (n := 0) rfl rfl rfl (by assumption)) rfl rfl ?_)))))
          refine wo_call rfl rfl (by kernel_rfl) (q3' _) rfl rfl ?_
          refine wo_n rfl (nv_not rfl rfl) rfl rfl (wo_nil (thenW_n (wc_false rfl (wc_skip (thenW_n (wc_seq (wc_region (wm rfl rfl (wm rfl rfl ?_)))))))))
          refine wo_n rfl (nv_slT rfl rfl rfl (by first | assumption | (simp only [List.length_drop, List.length_take]; omega) | omega)) rfl rfl (wo_n rfl (nv_buildS rfl rfl rfl) rfl rfl (wm rfl rfl ?_))
          refine wo_store rfl rfl rfl rfl (by assumption) rfl rfl (Nat.le_of_ble_eq_true rfl) rfl ?_
          intro m2 o2 f2 n2
          have x9 := o2.rowAll (n := 4) rfl
          have f9 := f2
          refine wa rfl rfl (wa rfl rfl (wo_nil (thenW_n (wc_ret (blockW_r (thenW_r ?_))))))
          refine endW_many (by intro i hi; cases hi) rfl (rs := [.cell 2 62, .tmp 3, .tmp 4]) (.cell rfl (by assumption) (.tmp rfl (.tmp rfl .nil))) (by simp) ?_
          refine ⟨fr_new fa f9 a1 l1, ?_⟩
          rw [htm, hsgn, q3, q1]
          rfl
        | false =>
          have q3' := fun m => q3 ▸ hsg m
          refine ev_of (fun m => hL.no _ _ m (by decide)) Tryd.func29 rfl rfl ?_
          refine wc_seq (wc_region ?_)
          refine wo_alloc rfl rfl rfl rfl ?_
          intro g1 m1 o1 f1 l1
          have a1 := o1
          have fa := f1
          refine wa rfl rfl (wa rfl rfl (wo_nil (thenW_n (wc_seq (wc_region (wm rfl rfl ?_))))))
          refine wo_call rfl rfl (by kernel_rfl) (hrun _) rfl rfl ?_
          refine wa rfl rfl (wo_nil (thenW_n (wc_seq (wc_block (wc_seq (wc_region (wm rfl rfl (wo_n rfl (nv_seqlF (u := txt []) rfl rfl (show _ = some (vs (txt [])) by kernel_rfl) (by assumption)) rfl rfl (wm rfl rfl ?_)))))))))
          refine wm rfl rfl (wo_n rfl (nv_ixS (n := 0) rfl rfl rfl (by assumption)) rfl rfl (wo_n rfl (nv_eqlT rfl rfl rfl (by first | assumption | decide | omega)) rfl rfl (wq rfl rfl rfl (wa rfl rfl (wo_nil (thenW_n (wc_true rfl (wc_seq (wc_region ?_)))))))))
          refine wa rfl rfl (wo_nil (thenW_n (wc_seq (wc_seq (wc_region (wm rfl rfl ?_))))))
          refine wo_call rfl rfl (by kernel_rfl) (q1' _) rfl rfl ?_
          refine wm rfl rfl (wg rfl (wg rfl (wp rfl rfl rfl (wo_nil (thenW_n (wc_true rfl (wc_region (wa rfl rfl (wo_nil ?_)))))))))
          refine thenW_n (wc_seq (wc_seq (wc_region (wm rfl rfl (wo_n rfl (nv_ixS (n := 0) rfl rfl rfl (by assumption)) rfl rfl ?_)))))
          refine wo_call rfl rfl (by kernel_rfl) (q3' _) rfl rfl ?_
          refine wo_n rfl (nv_not rfl rfl) rfl rfl (wo_nil (thenW_n (wc_true rfl (wc_seq (wc_region (wo_n rfl (nv_buildS rfl rfl rfl) rfl rfl ?_))))))
          refine wo_n rfl (nv_mkI rfl rfl) rfl rfl ?_
          refine wo_store rfl rfl rfl rfl (by assumption) rfl rfl (Nat.le_of_ble_eq_true rfl) rfl ?_
          intro m2 o2 f2 n2
          have x9 := o2.rowAll (n := 4) rfl
          have f9 := f2
          refine wa rfl rfl (wa rfl rfl (wo_nil (thenW_n (wc_ret (thenW_r (blockW_r (thenW_r ?_)))))))
          refine endW_many (by intro i hi; cases hi) rfl (rs := [.cell 2 62, .tmp 3, .tmp 4]) (.cell rfl (by assumption) (.tmp rfl (.tmp rfl .nil))) (by simp) ?_
          refine ⟨fr_new fa f9 a1 l1, ?_⟩
          rw [htm, hsgn, q3]
          rfl
      | false =>
        have q1' := fun m => q1 ▸ hp1 m
        cases q2 : hasP [61, 61] l with
        | true =>
          have q2' := fun m => q2 ▸ hp2 m
          cases q3 : isSign c0 with
          | true =>
            have q3' := fun m => q3 ▸ hsg m
            have hn2 : 2 ≤ l.length := h2len _ _ (by assumption)
            refine ev_of (fun m => hL.no _ _ m (by decide)) Tryd.func29 rfl rfl ?_
            refine wc_seq (wc_region ?_)
            refine wo_alloc rfl rfl rfl rfl ?_
            intro g1 m1 o1 f1 l1
            have a1 := o1
            have fa := f1
            refine wa rfl rfl (wa rfl rfl (wo_nil (thenW_n (wc_seq (wc_region (wm rfl rfl ?_))))))
            refine wo_call rfl rfl (by kernel_rfl) (hrun _) rfl rfl ?_
            refine wa rfl rfl (wo_nil (thenW_n (wc_seq (wc_block (wc_seq (wc_region (wm rfl rfl (wo_n rfl (nv_seqlF (u := txt []) rfl rfl (show _ = some (vs (txt [])) by kernel_rfl) (by assumption)) rfl rfl (wm rfl rfl ?_)))))))))
            refine wm rfl rfl (wo_n rfl (nv_ixS (n := 0) rfl rfl rfl (by assumption)) rfl rfl (wo_n rfl (nv_eqlT rfl rfl rfl (by first | assumption | decide | omega)) rfl rfl (wq rfl rfl rfl (wa rfl rfl (wo_nil (thenW_n (wc_true rfl (wc_seq (wc_region ?_)))))))))
            refine wa rfl rfl (wo_nil (thenW_n (wc_seq (wc_seq (wc_region (wm rfl rfl ?_))))))
            refine wo_call rfl rfl (by kernel_rfl) (q1' _) rfl rfl ?_
            refine wm rfl rfl (wm rfl rfl ?_)
            refine wo_call rfl rfl (by kernel_rfl) (q2' _) rfl rfl ?_
            refine wq rfl rfl rfl (wo_nil (thenW_n (wc_true rfl (wc_region (wa rfl rfl (wo_nil (thenW_n (wc_seq (wc_seq ?_)))))))))
            refine wc_region (wm rfl rfl (wo_n rfl (nv_ixS (n := 0) rfl rfl rfl (by assumption)) rfl rfl ?_))
            refine wo_call rfl rfl (by kernel_rfl) (q3' _) rfl rfl ?_
            refine wo_n rfl (nv_not rfl rfl) rfl rfl (wo_nil (thenW_n (wc_false rfl (wc_skip (thenW_n (wc_seq (wc_region (wm rfl rfl (wm rfl rfl ?_)))))))))
            refine wo_n rfl (nv_slT rfl rfl rfl (by first | assumption | (simp only [List.length_drop, List.length_take]; omega) | omega)) rfl rfl (wo_n rfl (nv_buildS rfl rfl rfl) rfl rfl (wm rfl rfl ?_))
            refine wo_store rfl rfl rfl rfl (by assumption) rfl rfl (Nat.le_of_ble_eq_true rfl) rfl ?_
            intro m2 o2 f2 n2
            have x9 := o2.rowAll (n := 4) rfl
            have f9 := f2
            refine wa rfl rfl (wa rfl rfl (wo_nil (thenW_n (wc_ret (blockW_r (thenW_r ?_))))))
            refine endW_many (by intro i hi; cases hi) rfl (rs := [.cell 2 62, .tmp 3, .tmp 4]) (.cell rfl (by assumption) (.tmp rfl (.tmp rfl .nil))) (by simp) ?_
            refine ⟨fr_new fa f9 a1 l1, ?_⟩
            rw [htm, hsgn, q3, q1, q2]
            rfl
          | false =>
            have q3' := fun m => q3 ▸ hsg m
            refine ev_of (fun m => hL.no _ _ m (by decide)) Tryd.func29 rfl rfl ?_
            refine wc_seq (wc_region ?_)
            refine wo_alloc rfl rfl rfl rfl ?_
            intro g1 m1 o1 f1 l1
            have a1 := o1
            have fa := f1
            refine wa rfl rfl (wa rfl rfl (wo_nil (thenW_n (wc_seq (wc_region (wm rfl rfl ?_))))))
            refine wo_call rfl rfl (by kernel_rfl) (hrun _) rfl rfl ?_
            refine wa rfl rfl (wo_nil (thenW_n (wc_seq (wc_block (wc_seq (wc_region (wm rfl rfl (wo_n rfl (nv_seqlF (u := txt []) rfl rfl (show _ = some (vs (txt [])) by kernel_rfl) (by assumption)) rfl rfl (wm rfl rfl ?_)))))))))
            refine wm rfl rfl (wo_n rfl (nv_ixS (n := 0) rfl rfl rfl (by assumption)) rfl rfl (wo_n rfl (nv_eqlT rfl rfl rfl (by first | assumption | decide | omega)) rfl rfl (wq rfl rfl rfl (wa rfl rfl (wo_nil (thenW_n (wc_true rfl (wc_seq (wc_region ?_)))))))))
            refine wa rfl rfl (wo_nil (thenW_n (wc_seq (wc_seq (wc_region (wm rfl rfl ?_))))))
            refine wo_call rfl rfl (by kernel_rfl) (q1' _) rfl rfl ?_
            refine wm rfl rfl (wm rfl rfl ?_)
            refine wo_call rfl rfl (by kernel_rfl) (q2' _) rfl rfl ?_
            refine wq rfl rfl rfl (wo_nil (thenW_n (wc_true rfl (wc_region (wa rfl rfl (wo_nil (thenW_n (wc_seq (wc_seq ?_)))))))))
            refine wc_region (wm rfl rfl (wo_n rfl (nv_ixS (n := 0) rfl rfl rfl (by assumption)) rfl rfl ?_))
            refine wo_call rfl rfl (by kernel_rfl) (q3' _) rfl rfl ?_
            refine wo_n rfl (nv_not rfl rfl) rfl rfl (wo_nil (thenW_n (wc_true rfl (wc_seq (wc_region (wo_n rfl (nv_buildS rfl rfl rfl) rfl rfl ?_))))))
            refine wo_n rfl (nv_mkI rfl rfl) rfl rfl ?_
            refine wo_store rfl rfl rfl rfl (by assumption) rfl rfl (Nat.le_of_ble_eq_true rfl) rfl ?_
            intro m2 o2 f2 n2
            have x9 := o2.rowAll (n := 4) rfl
            have f9 := f2
            refine wa rfl rfl (wa rfl rfl (wo_nil (thenW_n (wc_ret (thenW_r (blockW_r (thenW_r ?_)))))))
            refine endW_many (by intro i hi; cases hi) rfl (rs := [.cell 2 62, .tmp 3, .tmp 4]) (.cell rfl (by assumption) (.tmp rfl (.tmp rfl .nil))) (by simp) ?_
            refine ⟨fr_new fa f9 a1 l1, ?_⟩
            rw [htm, hsgn, q3]
            rfl
        | false =>
          have q2' := fun m => q2 ▸ hp2 m
          cases q3 : isSign c0 with
          | true =>
            have q3' := fun m => q3 ▸ hsg m
            refine ev_of (fun m => hL.no _ _ m (by decide)) Tryd.func29 rfl rfl ?_
            refine wc_seq (wc_region ?_)
            refine wo_alloc rfl rfl rfl rfl ?_
            intro g1 m1 o1 f1 l1
            have a1 := o1
            have fa := f1
            refine wa rfl rfl (wa rfl rfl (wo_nil (thenW_n (wc_seq (wc_region (wm rfl rfl ?_))))))
            refine wo_call rfl rfl (by kernel_rfl) (hrun _) rfl rfl ?_
            refine wa rfl rfl (wo_nil (thenW_n (wc_seq (wc_block (wc_seq (wc_region (wm rfl rfl (wo_n rfl (nv_seqlF (u := txt []) rfl rfl (show _ = some (vs (txt [])) by kernel_rfl) (by assumption)) rfl rfl (wm rfl rfl ?_)))))))))
            refine wm rfl rfl (wo_n rfl (nv_ixS (n := 0) rfl rfl rfl (by assumption)) rfl rfl (wo_n rfl (nv_eqlT rfl rfl rfl (by first | assumption | decide | omega)) rfl rfl (wq rfl rfl rfl (wa rfl rfl (wo_nil (thenW_n (wc_true rfl (wc_seq (wc_region ?_)))))))))
            refine wa rfl rfl (wo_nil (thenW_n (wc_seq (wc_seq (wc_region (wm rfl rfl ?_))))))
            refine wo_call rfl rfl (by kernel_rfl) (q1' _) rfl rfl ?_
            refine wm rfl rfl (wm rfl rfl ?_)
            refine wo_call rfl rfl (by kernel_rfl) (q2' _) rfl rfl ?_
            refine wq rfl rfl rfl (wo_nil (thenW_n (wc_false rfl (wc_skip (thenW_n (wc_seq (wc_seq (wc_region (wm rfl rfl ?_)))))))))
            refine wo_n rfl (nv_ixS (n := 0) rfl rfl rfl (by assumption)) rfl rfl ?_
            refine wo_call rfl rfl (by kernel_rfl) (q3' _) rfl rfl ?_
            refine wo_n rfl (nv_not rfl rfl) rfl rfl (wo_nil (thenW_n (wc_false rfl (wc_skip (thenW_n (wc_seq (wc_region (wm rfl rfl (wm rfl rfl ?_)))))))))
            refine wo_n rfl (nv_slT rfl rfl rfl (by first | assumption | (simp only [List.length_drop, List.length_take]; omega) | omega)) rfl rfl (wo_n rfl (nv_buildS rfl rfl rfl) rfl rfl (wm rfl rfl ?_))
            refine wo_store rfl rfl rfl rfl (by assumption) rfl rfl (Nat.le_of_ble_eq_true rfl) rfl ?_
            intro m2 o2 f2 n2
            have x9 := o2.rowAll (n := 4) rfl
            have f9 := f2
            refine wa rfl rfl (wa rfl rfl (wo_nil (thenW_n (wc_ret (blockW_r (thenW_r ?_))))))
            refine endW_many (by intro i hi; cases hi) rfl (rs := [.cell 2 62, .tmp 3, .tmp 4]) (.cell rfl (by assumption) (.tmp rfl (.tmp rfl .nil))) (by simp) ?_
            refine ⟨fr_new fa f9 a1 l1, ?_⟩
            rw [htm, hsgn, q3, q1, q2]
            rfl
          | false =>
            have q3' := fun m => q3 ▸ hsg m
            refine ev_of (fun m => hL.no _ _ m (by decide)) Tryd.func29 rfl rfl ?_
            refine wc_seq (wc_region ?_)
            refine wo_alloc rfl rfl rfl rfl ?_
            intro g1 m1 o1 f1 l1
            have a1 := o1
            have fa := f1
            refine wa rfl rfl (wa rfl rfl (wo_nil (thenW_n (wc_seq (wc_region (wm rfl rfl ?_))))))
            refine wo_call rfl rfl (by kernel_rfl) (hrun _) rfl rfl ?_
            refine wa rfl rfl (wo_nil (thenW_n (wc_seq (wc_block (wc_seq (wc_region (wm rfl rfl (wo_n rfl (nv_seqlF (u := txt []) rfl rfl (show _ = some (vs (txt [])) by kernel_rfl) (by assumption)) rfl rfl (wm rfl rfl ?_)))))))))
            refine wm rfl rfl (wo_n rfl (nv_ixS (n := 0) rfl rfl rfl (by assumption)) rfl rfl (wo_n rfl (nv_eqlT rfl rfl rfl (by first | assumption | decide | omega)) rfl rfl (wq rfl rfl rfl (wa rfl rfl (wo_nil (thenW_n (wc_true rfl (wc_seq (wc_region ?_)))))))))
            refine wa rfl rfl (wo_nil (thenW_n (wc_seq (wc_seq (wc_region (wm rfl rfl ?_))))))
            refine wo_call rfl rfl (by kernel_rfl) (q1' _) rfl rfl ?_
            refine wm rfl rfl (wm rfl rfl ?_)
            refine wo_call rfl rfl (by kernel_rfl) (q2' _) rfl rfl ?_
            refine wq rfl rfl rfl (wo_nil (thenW_n (wc_false rfl (wc_skip (thenW_n (wc_seq (wc_seq (wc_region (wm rfl rfl ?_)))))))))
            refine wo_n rfl (nv_ixS (n := 0) rfl rfl rfl (by assumption)) rfl rfl ?_
            refine wo_call rfl rfl (by kernel_rfl) (q3' _) rfl rfl ?_
            refine wo_n rfl (nv_not rfl rfl) rfl rfl (wo_nil (thenW_n (wc_true rfl (wc_seq (wc_region (wo_n rfl (nv_buildS rfl rfl rfl) rfl rfl ?_))))))
            refine wo_n rfl (nv_mkI rfl rfl) rfl rfl ?_
            refine wo_store rfl rfl rfl rfl (by assumption) rfl rfl (Nat.le_of_ble_eq_true rfl) rfl ?_
            intro m2 o2 f2 n2
            have x9 := o2.rowAll (n := 4) rfl
            have f9 := f2
            refine wa rfl rfl (wa rfl rfl (wo_nil (thenW_n (wc_ret (thenW_r (blockW_r (thenW_r ?_)))))))
            refine endW_many (by intro i hi; cases hi) rfl (rs := [.cell 2 62, .tmp 3, .tmp 4]) (.cell rfl (by assumption) (.tmp rfl (.tmp rfl .nil))) (by simp) ?_
            refine ⟨fr_new fa f9 a1 l1, ?_⟩
            rw [htm, hsgn, q3]
            rfl
    · have h95' : ¬ c = 95 := fun e => h95 (by rw [e]; rfl)
      have hdg : ∀ m, Ev Tryd.prog xb ext 27 [.int .u8 (c.toNat : Nat), vs (txt digitsL)] m (.bool (isDig c)) m := fun m => by
        have := of_spec (m := m) hL digitsL c
        rw [mem_digits] at this
        exact this
      cases q1 : isDig c with
      | true =>
        have q1' := fun m => q1 ▸ hdg m
        cases q2 : nOk w with
        | true =>
          have htm : tokM l = .ok 1 [] (numV w) w.length := by unfold tokM; rw [hw, hwc]; dsimp only; rw [if_neg h95', if_pos q1, ← hwc, if_pos q2, hwl']
          refine ev_of (fun m => hL.no _ _ m (by decide)) Tryd.func29 rfl rfl ?_
          refine wc_seq (wc_region ?_)
          refine wo_alloc rfl rfl rfl rfl ?_
          intro g1 m1 o1 f1 l1
          have a1 := o1
          have fa := f1
          refine wa rfl rfl (wa rfl rfl (wo_nil (thenW_n (wc_seq (wc_region (wm rfl rfl ?_))))))
          refine wo_call rfl rfl (by kernel_rfl) (hrun _) rfl rfl ?_
          refine wa rfl rfl (wo_nil (thenW_n (wc_seq (wc_block (wc_seq (wc_region (wm rfl rfl (wo_n rfl (nv_seqlF (u := txt []) rfl rfl (show _ = some (vs (txt [])) by kernel_rfl) (by assumption)) rfl rfl (wm rfl rfl ?_)))))))))
          refine wm rfl rfl (wo_n rfl (nv_ixS (n := 0) rfl rfl rfl (by assumption)) rfl rfl (wo_n rfl (nv_eqlF rfl rfl rfl (by first | assumption | decide | omega)) rfl rfl (wq rfl rfl rfl (wa rfl rfl (wo_nil (thenW_n (wc_false rfl (wc_seq (wc_region ?_)))))))))
          refine wm rfl rfl (wo_n rfl (nv_ixS (n := 0) rfl rfl rfl (by assumption)) rfl rfl ?_)
          refine wo_call rfl rfl (by kernel_rfl) (q1' _) rfl rfl ?_
          refine wa rfl rfl (wo_nil (thenW_n (wc_true rfl (wc_seq (wc_region (wm rfl rfl ?_))))))
          obtain ⟨x, hx, hxv⟩ := number_spec (m := m1) hL w hwb
          rw [q2] at hx
          refine wo_call rfl rfl (by kernel_rfl) (hx) rfl rfl ?_
          refine wm rfl rfl (wx rfl rfl rfl (wx rfl rfl rfl (wa rfl rfl (wa rfl rfl (wo_nil (thenW_n (wc_seq (wc_seq (wc_region ?_)))))))))
          refine wm rfl rfl (wo_n rfl (nv_not rfl rfl) rfl rfl (wo_nil (thenW_n (wc_false rfl (wc_skip (thenW_n (wc_seq (wc_region (wm rfl rfl ?_)))))))))
          refine wo_n rfl (nv_buildS rfl rfl rfl) rfl rfl (wm rfl rfl ?_)
          first
            | refine wo_n rfl (nv_lenL rfl rfl rfl) rfl rfl ?_
            | refine wo_n rfl (nv_lenT rfl rfl rfl) rfl rfl ?_
          refine wo_store rfl rfl rfl rfl (by assumption) rfl rfl (Nat.le_of_ble_eq_true rfl) rfl ?_
          intro m2 o2 f2 n2
          have x9 := o2.rowAll (n := 4) rfl
          have f9 := f2
          refine wa rfl rfl (wa rfl rfl (wo_nil (thenW_n (wc_ret (blockW_r (thenW_r ?_))))))
          refine endW_many (by intro i hi; cases hi) rfl (rs := [.cell 2 62, .tmp 3, .tmp 4]) (.cell rfl (by assumption) (.tmp rfl (.tmp rfl .nil))) (by simp) ?_
          refine ⟨fr_new fa f9 a1 l1, ?_⟩
          rw [htm, hxv q2]
          rfl
        | false =>
          have htm : tokM l = .err 202 := by unfold tokM; rw [hw, hwc]; dsimp only; rw [if_neg h95', if_pos q1, ← hwc, q2]; rfl
          refine ev_of (fun m => hL.no _ _ m (by decide)) Tryd.func29 rfl rfl ?_
          refine wc_seq (wc_region ?_)
          refine wo_alloc rfl rfl rfl rfl ?_
          intro g1 m1 o1 f1 l1
          have a1 := o1
          have fa := f1
          refine wa rfl rfl (wa rfl rfl (wo_nil (thenW_n (wc_seq (wc_region (wm rfl rfl ?_))))))
          refine wo_call rfl rfl (by kernel_rfl) (hrun _) rfl rfl ?_
          refine wa rfl rfl (wo_nil (thenW_n (wc_seq (wc_block (wc_seq (wc_region (wm rfl rfl (wo_n rfl (nv_seqlF (u := txt []) rfl rfl (show _ = some (vs (txt [])) by kernel_rfl) (by assumption)) rfl rfl (wm rfl rfl ?_)))))))))
          refine wm rfl rfl (wo_n rfl (nv_ixS (n := 0) rfl rfl rfl (by assumption)) rfl rfl (wo_n rfl (nv_eqlF rfl rfl rfl (by first | assumption | decide | omega)) rfl rfl (wq rfl rfl rfl (wa rfl rfl (wo_nil (thenW_n (wc_false rfl (wc_seq (wc_region ?_)))))))))
          refine wm rfl rfl (wo_n rfl (nv_ixS (n := 0) rfl rfl rfl (by assumption)) rfl rfl ?_)
          refine wo_call rfl rfl (by kernel_rfl) (q1' _) rfl rfl ?_
          refine wa rfl rfl (wo_nil (thenW_n (wc_true rfl (wc_seq (wc_region (wm rfl rfl ?_))))))
          obtain ⟨x, hx, hxv⟩ := number_spec (m := m1) hL w hwb
          rw [q2] at hx
          refine wo_call rfl rfl (by kernel_rfl) (hx) rfl rfl ?_
          refine wm rfl rfl (wx rfl rfl rfl (wx rfl rfl rfl (wa rfl rfl (wa rfl rfl (wo_nil (thenW_n (wc_seq (wc_seq (wc_region ?_)))))))))
          refine wm rfl rfl (wo_n rfl (nv_not rfl rfl) rfl rfl (wo_nil (thenW_n (wc_true rfl (wc_seq (wc_region (wo_n rfl (nv_buildS rfl rfl rfl) rfl rfl ?_)))))))
          refine wo_n rfl (nv_mkI rfl rfl) rfl rfl ?_
          refine wo_store rfl rfl rfl rfl (by assumption) rfl rfl (Nat.le_of_ble_eq_true rfl) rfl ?_
          intro m2 o2 f2 n2
          have x9 := o2.rowAll (n := 4) rfl
          have f9 := f2
          refine wa rfl rfl (wa rfl rfl (wo_nil (thenW_n (wc_ret (thenW_r (blockW_r (thenW_r ?_)))))))
          refine endW_many (by intro i hi; cases hi) rfl (rs := [.cell 2 62, .tmp 3, .tmp 4]) (.cell rfl (by assumption) (.tmp rfl (.tmp rfl .nil))) (by simp) ?_
          refine ⟨fr_new fa f9 a1 l1, ?_⟩
          rw [htm]
          rfl
      | false =>
        have q1' := fun m => q1 ▸ hdg m
        cases q2 : kw w with
        | true =>
          have htm : tokM l = .ok 2 w 0 w.length := by unfold tokM; rw [hw, hwc]; dsimp only; rw [if_neg h95', q1, ← hwc, q2, hwl']; rfl
          refine ev_of (fun m => hL.no _ _ m (by decide)) Tryd.func29 rfl rfl ?_
          refine wc_seq (wc_region ?_)
          refine wo_alloc rfl rfl rfl rfl ?_
          intro g1 m1 o1 f1 l1
          have a1 := o1
          have fa := f1
          refine wa rfl rfl (wa rfl rfl (wo_nil (thenW_n (wc_seq (wc_region (wm rfl rfl ?_))))))
          refine wo_call rfl rfl (by kernel_rfl) (hrun _) rfl rfl ?_
          refine wa rfl rfl (wo_nil (thenW_n (wc_seq (wc_block (wc_seq (wc_region (wm rfl rfl (wo_n rfl (nv_seqlF (u := txt []) rfl rfl (show _ = some (vs (txt [])) by kernel_rfl) (by assumption)) rfl rfl (wm rfl rfl ?_)))))))))
          refine wm rfl rfl (wo_n rfl (nv_ixS (n := 0) rfl rfl rfl (by assumption)) rfl rfl (wo_n rfl (nv_eqlF rfl rfl rfl (by first | assumption | decide | omega)) rfl rfl (wq rfl rfl rfl (wa rfl rfl (wo_nil (thenW_n (wc_false rfl (wc_seq (wc_region ?_)))))))))
          refine wm rfl rfl (wo_n rfl (nv_ixS (n := 0) rfl rfl rfl (by assumption)) rfl rfl ?_)
          refine wo_call rfl rfl (by kernel_rfl) (q1' _) rfl rfl ?_
          refine wa rfl rfl (wo_nil (thenW_n (wc_false rfl (wc_seq (wc_region (wm rfl rfl ?_))))))
          obtain ⟨mk, hk, fk⟩ := keyword_spec (m := m1) hL (by rw [fa.gl]; exact hg) w
          rw [q2] at hk
          have a2 := a1.fr fk (fun h => h)
          refine wo_call rfl rfl (by kernel_rfl) (hk) rfl rfl ?_
          refine wa rfl rfl (wo_nil (thenW_n (wc_true rfl (wc_seq (wc_region (wm rfl rfl (wo_n rfl (nv_buildS rfl rfl rfl) rfl rfl (wm rfl rfl ?_))))))))
          first
            | refine wo_n rfl (nv_lenL rfl rfl rfl) rfl rfl ?_
            | refine wo_n rfl (nv_lenT rfl rfl rfl) rfl rfl ?_
          refine wo_store rfl rfl rfl rfl (by assumption) rfl rfl (Nat.le_of_ble_eq_true rfl) rfl ?_
          intro m2 o2 f2 n2
          have x9 := o2.rowAll (n := 4) rfl
          have f9 := f2
          refine wa rfl rfl (wa rfl rfl (wo_nil (thenW_n (wc_ret (blockW_r (thenW_r ?_))))))
          refine endW_many (by intro i hi; cases hi) rfl (rs := [.cell 2 62, .tmp 3, .tmp 4]) (.cell rfl (by assumption) (.tmp rfl (.tmp rfl .nil))) (by simp) ?_
          refine ⟨fr_new (fa.trans fk (fun _ _ h => h)) f9 a2 l1, ?_⟩
          rw [htm]
          rfl
        | false =>
          cases q3 : nm w with
          | true =>
            have htm : tokM l = .ok 0 w 0 w.length := by unfold tokM; rw [hw, hwc]; dsimp only; rw [if_neg h95', q1, ← hwc, q2, q3, hwl']; rfl
            refine ev_of (fun m => hL.no _ _ m (by decide)) Tryd.func29 rfl rfl ?_
            refine wc_seq (wc_region ?_)
            refine wo_alloc rfl rfl rfl rfl ?_
            intro g1 m1 o1 f1 l1
            have a1 := o1
            have fa := f1
            refine wa rfl rfl (wa rfl rfl (wo_nil (thenW_n (wc_seq (wc_region (wm rfl rfl ?_))))))
            refine wo_call rfl rfl (by kernel_rfl) (hrun _) rfl rfl ?_
            refine wa rfl rfl (wo_nil (thenW_n (wc_seq (wc_block (wc_seq (wc_region (wm rfl rfl (wo_n rfl (nv_seqlF (u := txt []) rfl rfl (show _ = some (vs (txt [])) by kernel_rfl) (by assumption)) rfl rfl (wm rfl rfl ?_)))))))))
            refine wm rfl rfl (wo_n rfl (nv_ixS (n := 0) rfl rfl rfl (by assumption)) rfl rfl (wo_n rfl (nv_eqlF rfl rfl rfl (by first | assumption | decide | omega)) rfl rfl (wq rfl rfl rfl (wa rfl rfl (wo_nil (thenW_n (wc_false rfl (wc_seq (wc_region ?_)))))))))
            refine wm rfl rfl (wo_n rfl (nv_ixS (n := 0) rfl rfl rfl (by assumption)) rfl rfl ?_)
            refine wo_call rfl rfl (by kernel_rfl) (q1' _) rfl rfl ?_
            refine wa rfl rfl (wo_nil (thenW_n (wc_false rfl (wc_seq (wc_region (wm rfl rfl ?_))))))
            obtain ⟨mk, hk, fk⟩ := keyword_spec (m := m1) hL (by rw [fa.gl]; exact hg) w
            rw [q2] at hk
            have a2 := a1.fr fk (fun h => h)
            refine wo_call rfl rfl (by kernel_rfl) (hk) rfl rfl ?_
            refine wa rfl rfl (wo_nil (thenW_n (wc_false rfl (wc_seq (wc_region (wm rfl rfl ?_))))))
            obtain ⟨mn, hn, fn⟩ := nameMay_spec (m := mk) hL (by rw [fk.gl, fa.gl]; exact hg) w hwb
            rw [q3] at hn
            have a3 := a2.fr fn (fun h => h)
            refine wo_call rfl rfl (by kernel_rfl) (hn) rfl rfl ?_
            refine wo_n rfl (nv_not rfl rfl) rfl rfl (wa rfl rfl (wo_nil (thenW_n (wc_false rfl (wc_skip (blockW_n (thenW_n (wc_seq (wc_region ?_)))))))))
            refine wm rfl rfl (wo_n rfl (nv_buildS rfl rfl rfl) rfl rfl (wm rfl rfl ?_))
            first
              | refine wo_n rfl (nv_lenL rfl rfl rfl) rfl rfl ?_
              | refine wo_n rfl (nv_lenT rfl rfl rfl) rfl rfl ?_
            refine wo_store rfl rfl rfl rfl (by assumption) rfl rfl (Nat.le_of_ble_eq_true rfl) rfl ?_
            intro m2 o2 f2 n2
            have x9 := o2.rowAll (n := 4) rfl
            have f9 := f2
            refine wa rfl rfl (wa rfl rfl (wo_nil (thenW_n (wc_ret ?_))))
            refine endW_many (by intro i hi; cases hi) rfl (rs := [.cell 2 62, .tmp 3, .tmp 4]) (.cell rfl (by assumption) (.tmp rfl (.tmp rfl .nil))) (by simp) ?_
            refine ⟨fr_new ((fa.trans fk (fun _ _ h => h)).trans fn (fun _ _ h => h)) f9 a3 l1, ?_⟩
            rw [htm]
            rfl
          | false =>
            have htm : tokM l = .err 201 := by unfold tokM; rw [hw, hwc]; dsimp only; rw [if_neg h95', q1, ← hwc, q2, q3]; rfl
            refine ev_of (fun m => hL.no _ _ m (by decide)) Tryd.func29 rfl rfl ?_
            refine wc_seq (wc_region ?_)
            refine wo_alloc rfl rfl rfl rfl ?_
            intro g1 m1 o1 f1 l1
            have a1 := o1
            have fa := f1
            refine wa rfl rfl (wa rfl rfl (wo_nil (thenW_n (wc_seq (wc_region (wm rfl rfl ?_))))))
            refine wo_call rfl rfl (by kernel_rfl) (hrun _) rfl rfl ?_
            refine wa rfl rfl (wo_nil (thenW_n (wc_seq (wc_block (wc_seq (wc_region (wm rfl rfl (wo_n rfl (nv_seqlF (u := txt []) rfl rfl (show _ = some (vs (txt [])) by kernel_rfl) (by assumption)) rfl rfl (wm rfl rfl ?_)))))))))
            refine wm rfl rfl (wo_n rfl (nv_ixS (n := 0) rfl rfl rfl (by assumption)) rfl rfl (wo_n rfl (nv_eqlF rfl rfl rfl (by first | assumption | decide | omega)) rfl rfl (wq rfl rfl rfl (wa rfl rfl (wo_nil (thenW_n (wc_false rfl (wc_seq (wc_region ?_)))))))))
            refine wm rfl rfl (wo_n rfl (nv_ixS (n := 0) rfl rfl rfl (by assumption)) rfl rfl ?_)
            refine wo_call rfl rfl (by kernel_rfl) (q1' _) rfl rfl ?_
            refine wa rfl rfl (wo_nil (thenW_n (wc_false rfl (wc_seq (wc_region (wm rfl rfl ?_))))))
            obtain ⟨mk, hk, fk⟩ := keyword_spec (m := m1) hL (by rw [fa.gl]; exact hg) w
            rw [q2] at hk
            have a2 := a1.fr fk (fun h => h)
            refine wo_call rfl rfl (by kernel_rfl) (hk) rfl rfl ?_
            refine wa rfl rfl (wo_nil (thenW_n (wc_false rfl (wc_seq (wc_region (wm rfl rfl ?_))))))
            obtain ⟨mn, hn, fn⟩ := nameMay_spec (m := mk) hL (by rw [fk.gl, fa.gl]; exact hg) w hwb
            rw [q3] at hn
            have a3 := a2.fr fn (fun h => h)
            refine wo_call rfl rfl (by kernel_rfl) (hn) rfl rfl ?_
            refine wo_n rfl (nv_not rfl rfl) rfl rfl (wa rfl rfl (wo_nil (thenW_n (wc_true rfl (wc_seq (wc_region (wo_n rfl (nv_buildS rfl rfl rfl) rfl rfl ?_)))))))
            refine wo_n rfl (nv_mkI rfl rfl) rfl rfl ?_
            refine wo_store rfl rfl rfl rfl (by assumption) rfl rfl (Nat.le_of_ble_eq_true rfl) rfl ?_
            intro m2 o2 f2 n2
            have x9 := o2.rowAll (n := 4) rfl
            have f9 := f2
            refine wa rfl rfl (wa rfl rfl (wo_nil (thenW_n (wc_ret (blockW_r (thenW_r ?_))))))
            refine endW_many (by intro i hi; cases hi) rfl (rs := [.cell 2 62, .tmp 3, .tmp 4]) (.cell rfl (by assumption) (.tmp rfl (.tmp rfl .nil))) (by simp) ?_
            refine ⟨fr_new ((fa.trans fk (fun _ _ h => h)).trans fn (fun _ _ h => h)) f9 a3 l1, ?_⟩
            rw [htm]
            rfl
end
end Go.Proofs.YtppcjlplihiiiaaDoor.Sy

namespace Go.Proofs.YtppcjlplihiiiaaDoor.Sy
open Go Go.Ev Go.Ev.Pm Go.Ev.Lm
set_option linter.unusedVariables false
set_option linter.unusedSimpArgs false
set_option linter.unusedSectionVars false
def tkC (t : Tk) : List V := [.int .i64 t.kind, vs t.text, .int .i64 t.num, .int .i64 t.at_]
def TokO (m m' : Mem) (tv : V) (ts : List Tk) : Prop := ∃ own, RowR m' own 62 4 tv (ts.flatMap tkC) ts.length ∧ ∀ x, own x → m.next ≤ x
def LR.cat (acc : List Tk) : LR → LR
  | .err a c => .err a c
  | .ok ts => .ok (acc ++ ts)
theorem cat_add (acc : List Tk) (t : Tk) (r : LR) : LR.cat acc (r.add t) = LR.cat (acc ++ [t]) r := by cases r <;> simp [LR.cat, LR.add]
theorem cat_nil (r : LR) : LR.cat [] r = r := by cases r <;> simp [LR.cat]
theorem cutN_le (l : List UInt8) : cutN l ≤ l.length := (List.takeWhile_sublist _).length_le
theorem cutN_pos (c : UInt8) (r : List UInt8) (h : c ≠ 10) : 1 ≤ cutN (c :: r) := by
  unfold cutN
  rw [List.takeWhile_cons, if_pos (by simp [h])]
  simp
theorem tokM_n {l : List UInt8} {k : Int} {s : List UInt8} {num : Int} {n : Nat} (h1 : l ≠ []) (h : tokM l = .ok k s num n) : 1 ≤ n ∧ n ≤ l.length := by
  have hw : (l.takeWhile isMore).length ≤ l.length := (List.takeWhile_sublist _).length_le
  have hs : ∀ {k s num n}, sgnM l = .ok k s num n → 1 ≤ n ∧ n ≤ l.length := fun {k s num n} h => by
    unfold sgnM at h
    split at h
    · cases h
    · rename_i c r
      split at h
      · split at h
        · rename_i hp
          cases h
          refine ⟨by omega, ?_⟩
          simp only [Bool.or_eq_true, hasP, beq_iff_eq] at hp
          rcases hp with hp | hp <;> (have := congrArg List.length hp; simp at this; simp; omega)
        · cases h; simp
      · cases h
  unfold tokM at h
  split at h
  · exact hs h
  · rename_i c w hcw
    rw [hcw] at hw
    simp only [List.length_cons] at hw
    split at h
    · exact hs h
    · split at h
      · split at h
        · cases h; omega
        · cases h
      · split at h
        · cases h; omega
        · split at h
          · cases h; omega
          · cases h
section
variable {m : Mem} {xb : XB} {ext : CallF} (hL : LH xb ext)
include hL
set_option maxHeartbeats 1000000 in
theorem tokens_spec (hN : New m) (hg : Good m.gl) (l : List UInt8) : ∃ v m', Ev Tryd.prog xb ext 19 [vs (txt l)] m v m' ∧ (Fr F0 m m' ∧ match lexT l with
    | .err a c => ∃ fb, v = .tup [.nils, .iface 65 (.ptr fb 0)] ∧ Blok m' fb 67 [.int .i64 (a : Nat), .iface 28 (.int .i64 c)]
    | .ok ts => ∃ tv, v = .tup [tv, .nili] ∧ TokO m m' tv ts) := by
  by_cases hlen : 4096 < l.length
  · have hT : lexT l = .err 0 200 := by unfold lexT; rw [if_pos hlen]
    rw [hT]
    refine ev_of (fun m => hL.no _ _ m (by decide)) Tryd.func19 rfl rfl ?_
    refine wc_seq (wc_region (wa rfl rfl (wa rfl rfl (wo_nil (thenW_n (wc_seq (wc_seq (wc_region (wm rfl rfl ?_)))))))))
    first
      | refine wo_n rfl (nv_lenL rfl rfl rfl) rfl rfl ?_
      | refine wo_n rfl (nv_lenT rfl rfl rfl) rfl rfl ?_
    refine wo_n rfl (nv_gtrT rfl rfl rfl (by first | assumption | decide | omega)) rfl rfl (wo_nil (thenW_n (wc_true rfl (wc_seq (wc_region ?_)))))
    refine wo_n rfl (nv_mkI rfl rfl) rfl rfl ?_
    refine wo_n rfl (nv_buildS rfl rfl rfl) rfl rfl ?_
    refine wo_box rfl rfl rfl rfl rfl ?_
    intro g1 m1 o1 f1 l1
    have o9 := o1
    have f9 := f1
    refine wo_n rfl (nv_mkI rfl rfl) rfl rfl ?_
    refine wa rfl rfl (wa rfl rfl (wo_nil (thenW_n (wc_ret (thenW_r ?_)))))
    refine endW_many (by intro i hi; cases hi) rfl (rs := [.tmp 2, .tmp 3]) (.tmp rfl (.tmp rfl .nil)) (by simp) ?_
    exact ⟨f9, _, rfl, o9⟩
  · have hl : l.length ≤ 4096 := by omega
    obtain ⟨va, hva, hvb⟩ := valid_spec (m := m) hL l hl
    cases hbad : badM l.length 0 l with
    | some i =>
      have hT : lexT l = .err i 200 := by unfold lexT; rw [if_neg hlen, hbad]
      rw [hT]
      rw [hbad] at hva
      have := hvb i hbad
      subst this
      refine ev_of (fun m => hL.no _ _ m (by decide)) Tryd.func19 rfl rfl ?_
      refine wc_seq (wc_region (wa rfl rfl (wa rfl rfl (wo_nil (thenW_n (wc_seq (wc_seq (wc_region (wm rfl rfl ?_)))))))))
      first
        | refine wo_n rfl (nv_lenL rfl rfl rfl) rfl rfl ?_
        | refine wo_n rfl (nv_lenT rfl rfl rfl) rfl rfl ?_
      refine wo_n rfl (nv_gtrF rfl rfl rfl (by first | assumption | decide | omega)) rfl rfl (wo_nil (thenW_n (wc_false rfl (wc_skip (thenW_n (wc_seq (wc_seq (wc_region (wm rfl rfl ?_)))))))))
      refine wo_call rfl rfl (by kernel_rfl) (hva) rfl rfl ?_
      refine wm rfl rfl (wx rfl rfl rfl (wx rfl rfl rfl (wa rfl rfl (wa rfl rfl (wo_nil (thenW_n (wc_seq (wc_region (wm rfl rfl ?_)))))))))
      refine wo_n rfl (nv_not rfl rfl) rfl rfl (wo_nil (thenW_n (wc_true rfl (wc_seq (wc_region (wm rfl rfl ?_))))))
      refine wo_n rfl (nv_mkI rfl rfl) rfl rfl ?_
      refine wo_n rfl (nv_buildS rfl rfl rfl) rfl rfl ?_
      refine wo_box rfl rfl rfl rfl rfl ?_
      intro g1 m1 o1 f1 l1
      have o9 := o1
      have f9 := f1
      refine wo_n rfl (nv_mkI rfl rfl) rfl rfl ?_
      refine wa rfl rfl (wa rfl rfl (wo_nil (thenW_n (wc_ret (thenW_r ?_)))))
      refine endW_many (by intro i hi; cases hi) rfl (rs := [.tmp 2, .tmp 3]) (.tmp rfl (.tmp rfl .nil)) (by simp) ?_
      exact ⟨f9, _, rfl, o9⟩
    | none =>
      have hT : lexT l = lexM l.length 0 l := by unfold lexT; rw [if_neg hlen, hbad]
      rw [hT]
      rw [hbad] at hva
      refine ev_of (fun m => hL.no _ _ m (by decide)) Tryd.func19 rfl rfl ?_
      refine wc_seq (wc_region (wa rfl rfl (wa rfl rfl (wo_nil (thenW_n (wc_seq (wc_seq (wc_region (wm rfl rfl ?_)))))))))
      first
        | refine wo_n rfl (nv_lenL rfl rfl rfl) rfl rfl ?_
        | refine wo_n rfl (nv_lenT rfl rfl rfl) rfl rfl ?_
      refine wo_n rfl (nv_gtrF rfl rfl rfl (by first | assumption | decide | omega)) rfl rfl (wo_nil (thenW_n (wc_false rfl (wc_skip (thenW_n (wc_seq (wc_seq (wc_region (wm rfl rfl ?_)))))))))
      refine wo_call rfl rfl (by kernel_rfl) (hva) rfl rfl ?_
      refine wm rfl rfl (wx rfl rfl rfl (wx rfl rfl rfl (wa rfl rfl (wa rfl rfl (wo_nil (thenW_n (wc_seq (wc_region (wm rfl rfl ?_)))))))))
      refine wo_n rfl (nv_not rfl rfl) rfl rfl (wo_nil (thenW_n (wc_false rfl (wc_skip (thenW_n (wc_seq (wc_region (wa rfl rfl (wo_nil ?_)))))))))
      refine thenW_n (wc_seq (wc_seq (wc_region (wa rfl rfl (wo_nil (thenW_n (wc_block ?_)))))))
      refine wc_loop (fun q e mj => ∃ (i f : Nat) (out : V) (own : Nat → Prop) (acc : List Tk), q = l.length - i ∧ i ≤ l.length ∧ l.length - i ≤ f ∧ ELe (envL [(0, vs (txt l)), (6, out), (7, .int .i64 (i : Nat))]) e ∧ RowR mj own 62 4 out (acc.flatMap tkC) acc.length ∧ (∀ x, own x → m.next ≤ x) ∧ (∀ x, own x → x < mj.next) ∧ Fr F0 m mj ∧ acc.length ≤ i ∧ lexM l.length 0 l = LR.cat acc (lexM f i (l.drop i))) l.length ⟨0, l.length, .nils, F0, [], rfl, by omega, by omega, ?_, .nil, fun x h => h.elim, fun x h => h.elim, Fr.refl _ _, by simp, by rw [cat_nil]; rfl⟩ ?_
      · exact .cons rfl (.cons rfl (.cons rfl (.nil _)))
      rintro q e mj ⟨i, f, out, own, acc, rfl, hi, hf, he, hr, ho1, ho2, fm, hacc, heq⟩
      refine Wc.weak ?_ he
      rcases Nat.lt_or_ge i l.length with hlt | hge
      · obtain ⟨f, rfl⟩ : ∃ k, f = k + 1 := ⟨f - 1, by omega⟩
        have hc : l[i]? = some l[i] := List.getElem?_eq_getElem hlt
        have hcr : l.drop i = l[i] :: l.drop (i + 1) := List.drop_eq_getElem_cons hlt
        generalize l[i] = c at hc hcr
        have hNj := fm.nw hN
        have hgj : Good mj.gl := by rw [fm.gl]; exact hg
        have hbk := of_spec (m := mj) hL blanksL c
        rw [mem_blanks] at hbk
        cases hb : isBlank c with
        | true =>
          rw [hb] at hbk
          have hx : lexM (f + 1) i (l.drop i) = lexM f (i + 1) (l.drop (i + 1)) := by rw [hcr]; simp only [lexM]; rw [if_pos hb]
          refine wc_seq (wc_seq (wc_region (wm rfl rfl (wm rfl rfl ?_))))
          first
            | refine wo_n rfl (nv_lenL rfl rfl rfl) rfl rfl ?_
            | refine wo_n rfl (nv_lenT rfl rfl rfl) rfl rfl ?_
          refine wo_n rfl (nv_lssT rfl rfl rfl (by first | assumption | decide | omega)) rfl rfl (wo_nil (thenW_n (wc_true rfl (wc_skip (thenW_n (wc_block (wc_block (wc_seq (wc_region ?_)))))))))
          refine wm rfl rfl (wm rfl rfl (wo_n rfl (nv_ixS rfl rfl rfl (by assumption)) rfl rfl ?_))
          refine wo_call rfl rfl (by kernel_rfl) (hbk) rfl rfl ?_
          refine wa rfl rfl (wo_nil (thenW_n (wc_true rfl (wc_region (wm rfl rfl ?_)))))
          refine wo_n rfl (nv_add rfl rfl rfl rfl (by first | decide | omega) (by first | decide | omega)) rfl rfl ?_
          refine wa rfl rfl (wo_nil (blockW_n (blockW_n ?_)))
          exact ⟨l.length - (i + 1), by omega, i + 1, f, out, own, acc, rfl, by omega, by omega, .cons rfl (.cons rfl (.cons rfl (.nil _))), hr, ho1, ho2, fm, by omega, by rw [heq, hx]⟩
        | false =>
          rw [hb] at hbk
          by_cases h35 : c.toNat = 35
          · have h35' : c = 35 := UInt8.toNat_inj.1 h35
            have hx : lexM (f + 1) i (l.drop i) = lexM f (i + cutN (l.drop i)) (l.drop (i + cutN (l.drop i))) := by
              conv => lhs; rw [hcr]
              simp only [lexM]
              rw [if_neg (by rw [hb]; simp), if_pos h35', ← hcr, List.drop_drop]
            have hcl := cutN_le (l.drop i)
            rw [List.length_drop] at hcl
            have hcp : 1 ≤ cutN (l.drop i) := by rw [hcr]; exact cutN_pos _ _ (by rw [h35']; decide)
            obtain ⟨ra, rb, hcut, hra⟩ := cut_spec (m := mj) hL hgj (l.drop i) (by rw [List.length_drop]; omega)
            refine wc_seq (wc_seq (wc_region (wm rfl rfl (wm rfl rfl ?_))))
            first
              | refine wo_n rfl (nv_lenL rfl rfl rfl) rfl rfl ?_
              | refine wo_n rfl (nv_lenT rfl rfl rfl) rfl rfl ?_
            refine wo_n rfl (nv_lssT rfl rfl rfl (by first | assumption | decide | omega)) rfl rfl (wo_nil (thenW_n (wc_true rfl (wc_skip (thenW_n (wc_block (wc_block (wc_seq (wc_region ?_)))))))))
            refine wm rfl rfl (wm rfl rfl (wo_n rfl (nv_ixS rfl rfl rfl (by assumption)) rfl rfl ?_))
            refine wo_call rfl rfl (by kernel_rfl) (hbk) rfl rfl ?_
            refine wa rfl rfl (wo_nil (thenW_n (wc_false rfl (wc_seq (wc_region (wm rfl rfl (wm rfl rfl (wo_n rfl (nv_ixS rfl rfl rfl (by assumption)) rfl rfl (wo_n rfl (nv_eqlT rfl rfl rfl (by first | assumption | decide | omega)) rfl rfl ?_)))))))))
            refine wa rfl rfl (wo_nil (thenW_n (wc_true rfl (wc_seq (wc_region (wm rfl rfl (wm rfl rfl (wo_n rfl (nv_slF rfl rfl rfl (by first | assumption | (simp only [List.length_drop, List.length_take]; omega) | omega)) rfl rfl ?_))))))))
            refine wo_call rfl rfl (by kernel_rfl) (hcut) rfl rfl ?_
            refine wm rfl rfl (wx rfl rfl rfl (wx rfl rfl rfl (wx rfl rfl rfl (wa rfl rfl (wa rfl rfl (wa rfl rfl (wo_nil (thenW_n (wc_region ?_)))))))))
            refine wm rfl rfl (wm rfl rfl ?_)
            first
              | refine wo_n rfl (nv_lenL rfl rfl rfl) rfl rfl ?_
              | refine wo_n rfl (nv_lenT rfl rfl rfl) rfl rfl ?_
            refine wo_n rfl (nv_add rfl rfl rfl rfl (by first | decide | omega) (by first | decide | omega)) rfl rfl ?_
            refine wa rfl rfl (wo_nil (blockW_n (blockW_n ?_)))
            refine ⟨l.length - (i + cutN (l.drop i)), by omega, i + cutN (l.drop i), f, out, own, acc, rfl, by omega, by omega, ?_, hr, ho1, ho2, fm, by omega, by rw [heq, hx]⟩
            refine .cons rfl (.cons rfl (.cons ?_ (.nil _)))
            rw [← hra]; rfl
          · have h35' : ¬ c = 35 := fun e => h35 (by rw [e]; rfl)
            have hne : l.drop i ≠ [] := by rw [hcr]; simp
            obtain ⟨tv, mt, htk, ft, hTV⟩ := token_spec (m := mj) hL hgj (l.drop i) hne (by rw [List.length_drop]; omega)
            have hx : lexM (f + 1) i (l.drop i) = match tokM (l.drop i) with
                | .err e => .err i e
                | .ok k s num n => (lexM f (i + n) (l.drop (i + n))).add ⟨k, txt s, num, i⟩ := by
              conv => lhs; rw [hcr]
              simp only [lexM]
              rw [if_neg (by rw [hb]; simp), if_neg h35', ← hcr]
              simp only [List.drop_drop]
              generalize tokM (l.drop i) = z
              cases z <;> rfl
            cases htm : tokM (l.drop i) with
            | err c' =>
              rw [htm] at hTV hx
              unfold TokV at hTV
              subst hTV
              dsimp only at hx
              refine wc_seq (wc_seq (wc_region (wm rfl rfl (wm rfl rfl ?_))))
              first
                | refine wo_n rfl (nv_lenL rfl rfl rfl) rfl rfl ?_
                | refine wo_n rfl (nv_lenT rfl rfl rfl) rfl rfl ?_
              refine wo_n rfl (nv_lssT rfl rfl rfl (by first | assumption | decide | omega)) rfl rfl (wo_nil (thenW_n (wc_true rfl (wc_skip (thenW_n (wc_block (wc_block (wc_seq (wc_region ?_)))))))))
              refine wm rfl rfl (wm rfl rfl (wo_n rfl (nv_ixS rfl rfl rfl (by assumption)) rfl rfl ?_))
              refine wo_call rfl rfl (by kernel_rfl) (hbk) rfl rfl ?_
              refine wa rfl rfl (wo_nil (thenW_n (wc_false rfl (wc_seq (wc_region (wm rfl rfl (wm rfl rfl (wo_n rfl (nv_ixS rfl rfl rfl (by assumption)) rfl rfl (wo_n rfl (nv_eqlF rfl rfl rfl (by first | assumption | decide | omega)) rfl rfl ?_)))))))))
              refine wa rfl rfl (wo_nil (thenW_n (wc_false rfl (wc_seq (wc_region (wm rfl rfl (wm rfl rfl (wo_n rfl (nv_slF rfl rfl rfl (by first | assumption | (simp only [List.length_drop, List.length_take]; omega) | omega)) rfl rfl ?_))))))))
              refine wo_call rfl rfl (by kernel_rfl) (htk) rfl rfl ?_
              refine wm rfl rfl (wx rfl rfl rfl (wx rfl rfl rfl (wx rfl rfl rfl ?_)))
              refine wo_alloc rfl rfl rfl rfl ?_
              intro g1 m1 o1 f1 l1
              have a1 := o1
              have fa := f1
              refine wo_store rfl rfl rfl rfl (by assumption) rfl rfl (Nat.le_of_ble_eq_true rfl) rfl ?_
              intro m2 o2 f2 n2
              have fb := f2
              refine wa rfl rfl (wa rfl rfl (wo_nil (thenW_n (wc_seq (wc_seq (wc_region (wm rfl rfl (wo_n rfl (nv_neqI rfl rfl rfl) rfl rfl (wo_nil ?_)))))))))
              refine thenW_n (wc_true rfl (wc_seq (wc_region (wm rfl rfl (wm rfl rfl (wo_n rfl (nv_buildS rfl rfl rfl) rfl rfl ?_))))))
              refine wo_box rfl rfl rfl rfl rfl ?_
              intro g3 m3 o3 f3 l3
              have a3 := o3
              have fc := f3
              refine wo_n rfl (nv_mkI rfl rfl) rfl rfl ?_
              refine wa rfl rfl (wa rfl rfl (wo_nil (thenW_n (wc_ret (thenW_r (blockW_r (blockW_r ?_)))))))
              refine blockW_r (thenW_r ?_)
              refine endW_many (by intro i hi; cases hi) rfl (rs := [.tmp 2, .tmp 3]) (.tmp rfl (.tmp rfl .nil)) (by simp) ?_
              refine ⟨((fm.trans ft (fun _ _ h => h)).trans (fr_new fa fb a1 l1) (fun _ _ h => h)).trans fc (fun _ _ h => h), ?_⟩
              rw [heq, hx]
              exact ⟨_, rfl, a3⟩
            | ok k s num n =>
              rw [htm] at hTV hx
              have hn := tokM_n hne htm
              rw [List.length_drop] at hn
              unfold TokV at hTV
              subst hTV
              dsimp only at hx
              have hrt := hr.fr ft (fun _ _ _ h => h)
              refine wc_seq (wc_seq (wc_region (wm rfl rfl (wm rfl rfl ?_))))
              first
                | refine wo_n rfl (nv_lenL rfl rfl rfl) rfl rfl ?_
                | refine wo_n rfl (nv_lenT rfl rfl rfl) rfl rfl ?_
              refine wo_n rfl (nv_lssT rfl rfl rfl (by first | assumption | decide | omega)) rfl rfl (wo_nil (thenW_n (wc_true rfl (wc_skip (thenW_n (wc_block (wc_block (wc_seq (wc_region ?_)))))))))
              refine wm rfl rfl (wm rfl rfl (wo_n rfl (nv_ixS rfl rfl rfl (by assumption)) rfl rfl ?_))
              refine wo_call rfl rfl (by kernel_rfl) (hbk) rfl rfl ?_
              refine wa rfl rfl (wo_nil (thenW_n (wc_false rfl (wc_seq (wc_region (wm rfl rfl (wm rfl rfl (wo_n rfl (nv_ixS rfl rfl rfl (by assumption)) rfl rfl (wo_n rfl (nv_eqlF rfl rfl rfl (by first | assumption | decide | omega)) rfl rfl ?_)))))))))
              refine wa rfl rfl (wo_nil (thenW_n (wc_false rfl (wc_seq (wc_region (wm rfl rfl (wm rfl rfl (wo_n rfl (nv_slF rfl rfl rfl (by first | assumption | (simp only [List.length_drop, List.length_take]; omega) | omega)) rfl rfl ?_))))))))
              refine wo_call rfl rfl (by kernel_rfl) (htk) rfl rfl ?_
              refine wm rfl rfl (wx rfl rfl rfl (wx rfl rfl rfl (wx rfl rfl rfl ?_)))
              refine wo_alloc rfl rfl rfl rfl ?_
              intro g1 m1 o1 f1 l1
              have a1 := o1
              have fa := f1
              refine wo_store rfl rfl rfl rfl (by assumption) rfl rfl (Nat.le_of_ble_eq_true rfl) rfl ?_
              intro m2 o2 f2 n2
              have a2 := o2
              have fb := f2
              refine wa rfl rfl (wa rfl rfl (wo_nil (thenW_n (wc_seq (wc_seq (wc_region (wm rfl rfl (wo_n rfl (nv_neqN rfl rfl rfl rfl) rfl rfl (wo_nil ?_)))))))))
              refine thenW_n (wc_false rfl (wc_skip (thenW_n (wc_seq (wc_region (wm rfl rfl (wf rfl rfl ?_)))))))
              refine wo_store rfl rfl rfl rfl (by assumption) rfl rfl (Nat.le_of_ble_eq_true rfl) rfl ?_
              intro m3 o3 f3 n3
              have a3 : Blok m3 g1 62 (tkC ⟨k, txt s, num, i⟩) := o3
              have fc := f3
              have x3 := a3.rowAll (n := 4) rfl
              refine wo_nil (thenW_n (wc_seq (wc_region (wm rfl rfl ?_))))
              refine wo_m rfl (mv_loadA rfl rfl (by assumption)) rfl rfl ?_
              refine wo_bslice rfl rfl rfl rfl rfl (by decide) rfl rfl ?_
              intro g4 m4 o4 f4 l4
              have x4 : m4.row g4 0 (1 * 4) = some (tkC ⟨k, txt s, num, i⟩) := o4.rowAll rfl
              have fd := f4
              have hgo : ∀ x, x < mt.next → own x → ¬ (x = g1) := fun x hx _ e => by omega
              have hr1 := hrt.fr fa (fun _ _ _ h => h)
              have hr2 := hr1.fr fb (fun x hx h e => by have := ho2 x h; have := ft.le; omega)
              have hr3 := hr2.fr fc (fun x hx h e => by have := ho2 x h; have := ft.le; omega)
              have hr4 := hr3.fr fd (fun _ _ _ h => h)
              refine wo_append rfl rfl rfl (by assumption) (by first | rfl | simp) (by decide) rfl (by assumption) (by omega) rfl rfl ?_
              intro g5 m5 r5 f5 l5 t5
              have r5 := r5
              have f5 := f5
              have l5 := l5
              have t5 := t5
              refine wa rfl rfl (wo_nil (thenW_n (wc_region (wm rfl rfl (wm rfl rfl ?_)))))
              refine wo_n rfl (nv_add rfl rfl rfl rfl (by first | decide | omega) (by first | decide | omega)) rfl rfl ?_
              refine wa rfl rfl (wo_nil (blockW_n (blockW_n ?_)))
              have hle := ft.le
              have ff : Fr F0 m m4 := ((fm.trans ft (fun _ _ h => h)).trans (fr_new fa (fb.trans fc (fun _ _ h => h)) a1 l1) (fun _ _ h => h)).trans fd (fun _ _ h => h)
              have ff5 : Fr F0 m m5 := ⟨fun w => f5.nw (ff.nw w), f5.gl.trans ff.gl, Nat.le_trans ff.le f5.le, fun q hq _ => by
                obtain ⟨e1, e2⟩ := ff.eq q hq (fun h => h)
                obtain ⟨e3, e4⟩ := f5.eq q (Nat.lt_of_lt_of_le hq ff.le) (fun h => by have := ho1 q h; omega)
                exact ⟨e3.trans e1, e4.trans e2⟩⟩
              refine ⟨l.length - (i + n), by omega, i + n, f, _, fun x => own x ∨ x = g5, acc ++ [⟨k, txt s, num, i⟩], rfl, by omega, by omega, .cons rfl (.cons rfl (.cons rfl (.nil _))), ?_, ?_, ?_, ff5, by simp; omega, by rw [heq, hx, cat_add]⟩
              · simpa using r5
              · rintro x (h | h)
                · exact ho1 x h
                · have := ff.le; omega
              · rintro x (h | h)
                · have := ho2 x h; have h1 := fa.le; have h2 := fb.le; have h3 := fc.le; have h4 := fd.le; have h5 := f5.le; omega
                · omega
      · have : i = l.length := by omega
        subst this
        refine wc_seq (wc_seq (wc_region (wm rfl rfl (wm rfl rfl ?_))))
        first
          | refine wo_n rfl (nv_lenL rfl rfl rfl) rfl rfl ?_
          | refine wo_n rfl (nv_lenT rfl rfl rfl) rfl rfl ?_
        refine wo_n rfl (nv_lssF rfl rfl rfl (by first | assumption | decide | omega)) rfl rfl (wo_nil (thenW_n (wc_false rfl (wc_exit (thenW_x ?_)))))
        refine blockW_x (thenW_n (wc_seq (wc_region (wm rfl rfl (wa rfl rfl (wa rfl rfl (wo_nil (thenW_n (wc_ret ?_)))))))))
        refine endW_many (by intro i hi; cases hi) rfl (rs := [.tmp 2, .tmp 3]) (.tmp rfl (.tmp rfl .nil)) (by simp) ?_
        refine ⟨fm, ?_⟩
        rw [heq, List.drop_length]
        cases f <;> exact ⟨out, rfl, own, by simpa using hr, ho1⟩
theorem Tokens_spec (hN : New m) (hg : Good m.gl) (l : List UInt8) : ∃ v m', Ev Tryd.prog xb ext 10 [vs (txt l)] m v m' ∧ (Fr F0 m m' ∧ match lexT l with
    | .err a c => v = .tup [.nils, .int .i64 (a : Nat), .int .i64 c]
    | .ok ts => ∃ tv, v = .tup [tv, .int .i64 0, .int .i64 0] ∧ TokO m m' tv ts) := by
  obtain ⟨v, m1, hv, f1, hr⟩ := tokens_spec hL hN hg l
  have hg1 : Good m1.gl := by rw [f1.gl]; exact hg
  cases hT : lexT l with
  | err a c =>
    rw [hT] at hr
    obtain ⟨fb, rfl, hb⟩ := hr
    have ht := ev_ext (p := Tryd.prog) (xb := xb) (hL.toldE m1 fb a c hg1 hb)
    refine ev_of (fun m => hL.no _ _ m (by decide)) Tryd.func10 rfl rfl ?_
    refine wc_seq (wc_region (wa rfl rfl (wa rfl rfl (wa rfl rfl (wo_nil (thenW_n (wc_seq (wc_region (wm rfl rfl ?_)))))))))
    refine wo_call rfl rfl (by kernel_rfl) (hv) rfl rfl ?_
    refine wm rfl rfl (wx rfl rfl rfl (wx rfl rfl rfl (wa rfl rfl (wa rfl rfl (wo_nil (thenW_n (wc_seq (wc_region (wm rfl rfl ?_)))))))))
    refine wo_call rfl rfl (by kernel_rfl) (ht) rfl rfl ?_
    refine wm rfl rfl (wx rfl rfl rfl (wx rfl rfl rfl (wa rfl rfl (wa rfl rfl (wo_nil (thenW_n (wc_seq (wc_region (wm rfl rfl ?_)))))))))
    refine wm rfl rfl (wm rfl rfl (wa rfl rfl (wa rfl rfl (wa rfl rfl (wo_nil (thenW_n (wc_ret ?_)))))))
    refine endW_many (by intro i hi; cases hi) rfl (rs := [.tmp 2, .tmp 3, .tmp 4]) (.tmp rfl (.tmp rfl (.tmp rfl .nil))) (by simp) ?_
    exact ⟨f1, rfl⟩
  | ok ts =>
    rw [hT] at hr
    obtain ⟨tv, rfl, hb⟩ := hr
    have ht := ev_ext (p := Tryd.prog) (xb := xb) (hL.toldN m1 hg1)
    refine ev_of (fun m => hL.no _ _ m (by decide)) Tryd.func10 rfl rfl ?_
    refine wc_seq (wc_region (wa rfl rfl (wa rfl rfl (wa rfl rfl (wo_nil (thenW_n (wc_seq (wc_region (wm rfl rfl ?_)))))))))
    refine wo_call rfl rfl (by kernel_rfl) (hv) rfl rfl ?_
    refine wm rfl rfl (wx rfl rfl rfl (wx rfl rfl rfl (wa rfl rfl (wa rfl rfl (wo_nil (thenW_n (wc_seq (wc_region (wm rfl rfl ?_)))))))))
    refine wo_call rfl rfl (by kernel_rfl) (ht) rfl rfl ?_
    refine wm rfl rfl (wx rfl rfl rfl (wx rfl rfl rfl (wa rfl rfl (wa rfl rfl (wo_nil (thenW_n (wc_seq (wc_region (wm rfl rfl ?_)))))))))
    refine wm rfl rfl (wm rfl rfl (wa rfl rfl (wa rfl rfl (wa rfl rfl (wo_nil (thenW_n (wc_ret ?_)))))))
    refine endW_many (by intro i hi; cases hi) rfl (rs := [.tmp 2, .tmp 3, .tmp 4]) (.tmp rfl (.tmp rfl (.tmp rfl .nil))) (by simp) ?_
    exact ⟨f1, tv, rfl, hb⟩
end
end Go.Proofs.YtppcjlplihiiiaaDoor.Sy

namespace Go.Ev.Pm
open Go
set_option linter.unusedVariables false
set_option linter.unusedSimpArgs false
section
variable (E : Int)
def opM (P : PS) : PS := if P.ops.length = 4 then fail E 402 P else
  let P := must E kop P
  let q := name E P
  let f := base E (must E kcolon q.2)
  let t := base E (must E karrow f.2)
  let P := must E ksemi t.2
  { P with ops := P.ops ++ [⟨q.1, f.1, t.1⟩] }
def opsM : Nat → PS → PS
  | 0, P => P
  | n + 1, P => if is P kop then opsM n (opM E P) else P
def endM (P : PS) : PS := match next P with
  | some _ => fail E 403 P
  | none => P
inductive PR
  | err (at_ c : Int)
  | ok (ops : List Od) (ns : List Nd)
def fuelOf (ts : List Tk) : Nat := 16 * ts.length + 9
def parseP (ts : List Tk) : PS :=
  let P := opsM E (ts.length + 1) { toks := ts }
  match run E (fuelOf ts) .inner P with
  | some (_, P) => endM E P
  | none => P
def parseM (ts : List Tk) : PR := match (parseP E ts).err with
  | some (c, a) => .err a c
  | none => .ok (parseP E ts).ops (parseP E ts).ns
end
section
variable {E : Int} {P : PS}
theorem fail_ops (c : Int) (P : PS) : (fail E c P).ops = P.ops := by unfold fail; split <;> rfl
theorem must_ops (s : ByteArray) (P : PS) : (must E s P).ops = P.ops := by unfold must; split; rfl; exact fail_ops _ P
theorem name_ops (P : PS) : (name E P).2.ops = P.ops := by
  unfold name
  split
  · split
    · rfl
    · exact fail_ops _ P
  · exact fail_ops _ P
theorem base_ops (P : PS) : (base E P).2.ops = P.ops := by unfold base; split; rfl; exact must_ops _ P
theorem opM_le (P : PS) : Le P (opM E P) := by
  unfold opM
  split
  · exact fail_le _ P
  · exact Le.trans ((must_le (E := E) _ _).trans ((name_le (E := E) _).trans ((must_le (E := E) _ _).trans ((base_le (E := E) _).trans ((must_le (E := E) _ _).trans ((base_le (E := E) _).trans (must_le (E := E) ksemi _))))))) ⟨rfl, Nat.le_refl _⟩
theorem is_err {s : ByteArray} {z : Int × Int} (h : P.err = some z) : is P s = false := by unfold is next; rw [h]
theorem fail_err' (c : Int) (P : PS) : ∃ z, (fail E c P).err = some z := by
  unfold fail
  cases h : P.err with
  | none => exact ⟨_, rfl⟩
  | some z => exact ⟨_, h⟩
theorem opM_lt (h : is P kop = true) : (opM E P).toks.length < P.toks.length ∨ is (opM E P) kop = false := by
  unfold opM
  split
  · obtain ⟨z, hz⟩ := fail_err' (E := E) 402 P
    exact .inr (is_err hz)
  · left
    have e : must E kop P = drop1 P := by unfold must; rw [if_pos h]
    have h0 := drop1_lt h
    rw [← e] at h0
    exact Nat.lt_of_le_of_lt ((name_le (E := E) _).trans ((must_le (E := E) _ _).trans ((base_le (E := E) _).trans ((must_le (E := E) _ _).trans ((base_le (E := E) _).trans (must_le (E := E) ksemi _)))))).2 h0
theorem run_fuel {ts : List Tk} (h : P.toks.length ≤ ts.length) : run E (fuelOf ts) .inner P ≠ none := run_some _ _ _ trivial (by simp only [rank, fuelOf]; omega)
end
end Go.Ev.Pm

namespace Go.Proofs.YtppcjlplihiiiaaDoor.Sy
open Go Go.Ev Go.Ev.Pm
set_option linter.unusedVariables false
set_option linter.unusedSimpArgs false
set_option linter.unusedSectionVars false
section
variable {m m' : Mem} {E : Int} {pb : Nat} {oN oO : Nat → Prop} {P P' : PS} {xb : XB} {ext : CallF} (hX : XH ext)
theorem addOp (h1 : Rep m E pb oN oO P) {tv ov nv ev : V} (hp : Parts m E pb oN oO P tv ov nv ev) {g : Nat} {v : V} {o : Od} {m1 m2 m3 : Mem} (f1 : Fr F0 m m1) (f2 : Fr oO m1 m2) (f3 : Fr (fun q => q = pb) m2 m3) (hg : m1.next ≤ g) (ht : g < m2.next)
    (hr : RowR m2 (fun x => oO x ∨ x = g) 36 3 v (P.ops.flatMap odC ++ odC o) (P.ops.length + 1)) (ho : Blok m3 pb 46 [tv, .int .i64 E, v, nv, ev, .int .i64 P.deep]) (h4 : P.ops.length < 4) : Post m E pb oN oO m3 { P with ops := P.ops ++ [o] } := by
  have fM : Fr (fun q => q = pb ∨ oO q) m m3 := ((f1.mono (fun _ _ h => h.elim)).trans (f2.mono fun _ _ h => .inr h) (fun _ _ h => h)).trans (f3.mono fun _ _ h => .inl h) (fun _ _ h => h)
  have fN : Fr (own pb oN oO) m m3 := fM.mono fun _ _ h => by
    rcases h with h | h
    · exact .inl h
    · exact .inr (.inr h)
  have d0 : ∀ x, x < m.next → ¬ (x = g) := fun y hy e => by
    have := f1.le
    omega
  have hpb := hp.obj.lt
  have gp : ¬ (pb = g) := d0 pb hpb
  refine ⟨oN, fun x => oO x ∨ x = g, ⟨⟨tv, v, nv, ev, ⟨ho, ?_, ?_, ?_, ?_⟩⟩, h1.dN, ?_, ?_, h1.nl, ?_, h1.d0, h1.d1, fN.nw h1.nw, ?_, ?_, by rw [fN.gl]; exact h1.gl⟩, fN, ?_⟩
  · exact hp.toks.fr fN (fun _ _ h => h) (fun y hy k => by
      rcases k with k | k | (k | k)
      · exact .inl k
      · exact .inr (.inl k)
      · exact .inr (.inr k)
      · exact absurd k (d0 y hy))
  · have := hr.fr f3 (fun y hy k c => by
      rcases k with k | k
      · exact h1.dO (c ▸ k)
      · exact gp (c ▸ k))
    simpa using this
  · refine (hp.ns.fr fM (fun y hy k c => ?_))
    rcases c with c | c
    · exact h1.dN (c ▸ k)
    · exact h1.dd y k c
  · exact hp.err.fr fN (fun _ _ h => h) (fun y hy k => by
      rcases k with k | k | (k | k)
      · exact .inl k
      · exact .inr (.inl k)
      · exact .inr (.inr k)
      · exact absurd k (d0 y hy))
  · rintro (k | k)
    · exact h1.dO k
    · exact gp k
  · rintro y k (c | c)
    · exact h1.dd y k c
    · exact d0 y (h1.lN y k) c
  · simp; omega
  · exact fun y k => Nat.lt_of_lt_of_le (h1.lN y k) fN.le
  · rintro y (k | k)
    · exact Nat.lt_of_lt_of_le (h1.lO y k) fN.le
    · have := f3.le; omega
  · rintro y hy (k | k | (k | k))
    · exact .inl k
    · exact .inr (.inl k)
    · exact .inr (.inr k)
    · exact absurd k (d0 y hy)
include hX
set_option maxHeartbeats 2000000 in
theorem op_spec (h : Rep m E pb oN oO P) : ∃ m', Ev Tryd.prog xb ext 12 [.ptr pb 0] m (.tup []) m' ∧ Post m E pb oN oO m' (opM E P) := by
  refine ev_to ?_
  obtain ⟨tv, ov, nv, ev, hp⟩ := h.ex
  have c2 := hp.obj.cell (i := 2) rfl
  have hr := hp.ops
  have hol := h.ol
  by_cases h4 : P.ops.length = 4
  · obtain ⟨mf, hf, pf⟩ := fail_spec (xb := xb) hX.no h (.no 402)
    unfold opM
    rw [if_pos h4]
    refine ev_of (fun m => hX.no _ _ m (by decide)) Tryd.func12 rfl rfl ?_
    refine wc_seq (wc_seq (wc_region (wm rfl rfl (wk rfl rfl rfl (wf rfl rfl ?_)))))
    refine wo_m rfl (mv_load rfl rfl (by assumption)) rfl rfl ?_
    first
      | refine wo_n rfl (nv_lenS rfl rfl rfl) rfl rfl ?_
      | refine wo_n rfl (nv_lenN rfl rfl rfl) rfl rfl ?_
      | refine wo_n rfl (nv_lenR (by assumption) rfl rfl rfl) rfl rfl ?_
    refine wo_n rfl (nv_eqlT rfl rfl rfl (by first | assumption | decide | omega)) rfl rfl (wo_nil (thenW_n (wc_true rfl (wc_seq (wc_region (wm rfl rfl ?_))))))
    refine wo_n rfl (nv_mkI rfl rfl) rfl rfl ?_
    refine wo_call rfl rfl (by kernel_rfl) (hf) rfl rfl ?_
    refine wo_nil (thenW_n (wc_ret (thenW_r ?_)))
    refine endW_none' rfl ?_
    exact ⟨rfl, pf⟩
  · obtain ⟨n1, k1, A1⟩ := must_spec (xb := xb) hX.no h kop
    obtain ⟨n2, k2, A2⟩ := A1.step fun _ _ r => name_spec (xb := xb) hX.no r
    have hops : (must E ksemi (base E (must E karrow (base E (must E kcolon (name E (must E kop P)).2)).2)).2).ops = P.ops := by
      rw [must_ops, base_ops, must_ops, base_ops, must_ops, name_ops, must_ops]
    unfold opM
    rw [if_neg h4]
    dsimp only
    refine ev_of (fun m => hX.no _ _ m (by decide)) Tryd.func12 rfl rfl ?_
    refine wc_seq (wc_seq (wc_region (wm rfl rfl (wk rfl rfl rfl (wf rfl rfl ?_)))))
    refine wo_m rfl (mv_load rfl rfl (by assumption)) rfl rfl ?_
    first
      | refine wo_n rfl (nv_lenS rfl rfl rfl) rfl rfl ?_
      | refine wo_n rfl (nv_lenN rfl rfl rfl) rfl rfl ?_
      | refine wo_n rfl (nv_lenR (by assumption) rfl rfl rfl) rfl rfl ?_
    refine wo_n rfl (nv_eqlF rfl rfl rfl (by first | assumption | decide | omega)) rfl rfl (wo_nil (thenW_n (wc_false rfl (wc_skip (thenW_n (wc_seq (wc_region (wm rfl rfl ?_))))))))
    refine wo_call rfl rfl (by kernel_rfl) (k1) rfl rfl ?_
    refine wo_nil (thenW_n (wc_seq (wc_region (wm rfl rfl ?_))))
    refine wo_call rfl rfl (by kernel_rfl) (k2) rfl rfl ?_
    refine wo_n rfl (nv_buildS rfl rfl rfl) rfl rfl ?_
    refine wo_alloc rfl rfl rfl rfl ?_
    intro g1 m1 o1 f1 l1
    have w1 := Wx.start A2 o1 f1 l1
    refine wo_store rfl rfl rfl rfl (by assumption) rfl rfl (Nat.le_of_ble_eq_true rfl) rfl ?_
    intro m2 o2 f2 n2
    have w2 : Wx m E pb oN oO 36 g1 (odC ⟨(name E (must E kop P)).1, 0, 0⟩) m2 _ := w1.store o2 f2
    refine wo_nil (thenW_n (wc_seq (wc_region (wm rfl rfl ?_))))
    obtain ⟨n3, k3, w3, l3⟩ := w2.call fun _ _ r => must_spec (xb := xb) hX.no r kcolon
    refine wo_call rfl rfl (by kernel_rfl) (k3) rfl rfl ?_
    refine wo_nil (thenW_n (wc_seq (wc_region (wm rfl rfl ?_))))
    obtain ⟨n4, k4, w4, l4⟩ := w3.call fun _ _ r => base_spec (xb := xb) hX.no r
    have b4 := w4.b
    refine wo_call rfl rfl (by kernel_rfl) (k4) rfl rfl ?_
    refine wf rfl rfl ?_
    refine wo_store rfl rfl rfl rfl (by assumption) rfl rfl (Nat.le_of_ble_eq_true rfl) rfl ?_
    intro m3 o3 f3 n3
    have w5 : Wx m E pb oN oO 36 g1 (odC ⟨(name E (must E kop P)).1, (base E (must E kcolon (name E (must E kop P)).2)).1, 0⟩) m3 _ := w4.store o3 f3
    refine wo_nil (thenW_n (wc_seq (wc_region (wm rfl rfl ?_))))
    obtain ⟨n6, k6, w6, l6⟩ := w5.call fun _ _ r => must_spec (xb := xb) hX.no r karrow
    refine wo_call rfl rfl (by kernel_rfl) (k6) rfl rfl ?_
    refine wo_nil (thenW_n (wc_seq (wc_region (wm rfl rfl ?_))))
    obtain ⟨n7, k7, w7, l7⟩ := w6.call fun _ _ r => base_spec (xb := xb) hX.no r
    have b7 := w7.b
    refine wo_call rfl rfl (by kernel_rfl) (k7) rfl rfl ?_
    refine wf rfl rfl ?_
    refine wo_store rfl rfl rfl rfl (by assumption) rfl rfl (Nat.le_of_ble_eq_true rfl) rfl ?_
    intro m4 o4 f4 n4
    have w8 : Wx m E pb oN oO 36 g1 (odC ⟨(name E (must E kop P)).1, (base E (must E kcolon (name E (must E kop P)).2)).1, (base E (must E karrow (base E (must E kcolon (name E (must E kop P)).2)).2)).1⟩) m4 _ := w7.store o4 f4
    refine wo_nil (thenW_n (wc_seq (wc_region (wm rfl rfl ?_))))
    obtain ⟨n9, k9, w9, l9⟩ := w8.call fun _ _ r => must_spec (xb := xb) hX.no r ksemi
    have b9 := w9.b
    obtain ⟨aN, aO, r9, hn9, s9⟩ := w9.p
    obtain ⟨tv9, ov9, nv9, ev9, hp9⟩ := r9.ex
    have x9 := b9.rowAll (n := 3) rfl
    have y9 := hp9.obj.cell (i := 2) rfl
    have hr9 := hp9.ops
    have hN9 := r9.nw
    have hl9 := r9.ol
    have hlo := hops
    refine wo_call rfl rfl (by kernel_rfl) (k9) rfl rfl ?_
    refine wo_nil (thenW_n ?_)
    refine wc_draw (by kernel_rfl) ?_
    refine wd_cast (l' := [0, 1, 2, 3, 4, 5, 6, 7, 8, 9, 10]) (by kernel_rfl) rfl ?_
    refine wd_n rfl rfl rfl (nv_move rfl rfl) rfl rfl ?_
    refine wd_n rfl rfl rfl (nv_move rfl rfl) rfl rfl ?_
    refine wd_n rfl rfl rfl (nv_nil rfl rfl rfl) rfl rfl ?_
    refine wd_n rfl rfl rfl (nv_fa rfl rfl) rfl rfl ?_
    refine wd_load rfl rfl rfl rfl (by assumption) rfl rfl ?_
    refine wd_loadA rfl rfl rfl rfl (by assumption) rfl rfl ?_
    refine wd_bslice (by assumption) rfl rfl rfl rfl rfl rfl (by decide) rfl rfl ?_
    intro g5 m5 k5 o5 f5 l5
    have x10 : m5.row g5 0 (1 * 3) = some (odC ⟨(name E (must E kop P)).1, (base E (must E kcolon (name E (must E kop P)).2)).1, (base E (must E karrow (base E (must E kcolon (name E (must E kop P)).2)).2)).1⟩) := o5.rowAll rfl
    have f10 := f5
    have hr10 := hr9.fr f5 (fun _ _ _ h => h)
    have p10 := hp9.obj.fr f5 (fun h => h)
    have l10 := l5
    refine wd_append rfl rfl rfl rfl (by assumption) (by first | rfl | simp) (by decide) rfl (by assumption) (by omega) (by kernel_rfl) (by kernel_rfl) rfl rfl ?_
    intro g6 m6 r6 f6 l6 t6
    have f11 := f6
    have g11 := l6
    have t11 := t6
    have p11 := p10.fr f6 r9.dO
    have r11 := r6
    refine wd_n rfl rfl rfl (nv_nil rfl rfl rfl) rfl rfl ?_
    refine wd_n rfl rfl rfl (nv_fa rfl rfl) rfl rfl ?_
    refine wd_store rfl rfl rfl rfl rfl (by assumption) rfl rfl (Nat.le_of_ble_eq_true rfl) (by kernel_rfl) (by kernel_rfl) rfl ?_
    intro m7 o7 f7 n7
    have o12 := o7
    have f12 := f7
    refine wd_nil ?_
    refine endW_none rfl ?_
    exact ⟨rfl, (w9.to hn9 s9 (addOp r9 hp9 f10 f11 f12 g11 t11 r11 o12 (by rw [hlo]; omega))).done⟩
end
end Go.Proofs.YtppcjlplihiiiaaDoor.Sy

namespace Go.Proofs.YtppcjlplihiiiaaDoor.Sy
open Go Go.Ev Go.Ev.Pm Go.Ev.Lm
set_option linter.unusedVariables false
set_option linter.unusedSimpArgs false
set_option linter.unusedSectionVars false
theorem flat_get {α : Type} {k : Nat} {f : α → List V} (hf : ∀ t, (f t).length = k) : ∀ (ts : List α) (i : Nat) (t : α) (j : Nat), ts[i]? = some t → j < k → (ts.flatMap f)[i * k + j]? = (f t)[j]? := by
  intro ts
  induction ts with
  | nil => intro i t j h; simp at h
  | cons a r ih =>
    intro i t j h hj
    rw [List.flatMap_cons]
    cases i with
    | zero =>
      simp at h
      subst h
      rw [List.getElem?_append_left (by rw [hf]; omega)]
      simp
    | succ i =>
      rw [List.getElem?_append_right (by rw [hf, Nat.add_mul]; omega)]
      have := ih i t j (by simpa using h) hj
      rw [hf, ← this]
      congr 1
      rw [Nat.add_mul]; omega
theorem flat_len {α : Type} {k : Nat} {f : α → List V} (hf : ∀ t, (f t).length = k) (ts : List α) : (ts.flatMap f).length = ts.length * k := by
  induction ts with
  | nil => simp
  | cons a r ih => rw [List.flatMap_cons, List.length_append, hf, ih, List.length_cons, Nat.add_mul]; omega
theorem tokR_of {m : Mem} {own own' : Nat → Prop} {tv : V} {ts : List Tk} (h : RowR m own 62 4 tv (ts.flatMap tkC) ts.length) (hd : ∀ x, x < m.next → ¬ own' x) : TokR m own' tv ts := by
  generalize hn : ts.length = n at h
  generalize hc : ts.flatMap tkC = cs at h
  cases h with
  | nil =>
    have : ts = [] := List.eq_nil_of_length_eq_zero hn
    subst this
    exact .nil
  | sl q n cs hg hl =>
    refine .sl q 0 _ _ ts hn.symm (fun i t ht => ?_) (Nat.le_refl _) (hd q hg.lt) hg.lt ?_
    · have key : ∀ j, j < 4 → cs[i * 4 + j]? = (tkC t)[j]? := fun j hj => by rw [← hc]; exact flat_get (k := 4) (fun _ => rfl) ts i t j ht hj
      exact ⟨hg.cell (by rw [Nat.zero_add]; exact key 0 (by omega)), hg.cell (by rw [Nat.zero_add]; exact key 1 (by omega)), hg.cell (by rw [Nat.zero_add]; exact key 2 (by omega)), hg.cell (by rw [Nat.zero_add]; exact key 3 (by omega))⟩
    · obtain ⟨f, tot, c, post, h1, _⟩ := hg.blk
      unfold elOf; rw [h1]
theorem RowR.form {m : Mem} {own : Nat → Prop} {el sz n : Nat} {v : V} {cs : List V} (h : RowR m own el sz v cs n) : v = .nils ∨ ∃ q, v = .sl q 0 n n sz := by
  cases h with
  | nil => exact .inl rfl
  | sl q n cs hg hl => exact .inr ⟨q, rfl⟩
theorem RowR.nil0 {m : Mem} {own : Nat → Prop} {el sz n : Nat} {cs : List V} (h : RowR m own el sz .nils cs n) : n = 0 := by
  generalize hv : V.nils = v at h
  cases h with
  | nil => rfl
  | sl q n cs hg hl => cases hv
def parseL (l : List UInt8) : PR := match lexT l with
  | .err a _ => .err a 400
  | .ok ts => parseM l.length ts
structure ProgO (m m' : Mem) (ov nv : V) (ops : List Od) (ns : List Nd) : Prop where
  ex : ∃ oO oN, RowR m' oO 36 3 ov (ops.flatMap odC) ops.length ∧ RowR m' oN 38 10 nv (ns.flatMap ndC) ns.length ∧ (∀ x, oO x → m.next ≤ x) ∧ (∀ x, oN x → m.next ≤ x) ∧ (∀ x, oN x → ¬ oO x) ∧ (∀ x, oN x → x < m'.next) ∧ ∀ x, oO x → x < m'.next
  nl : ns.length ≤ 512
  ol : ops.length ≤ 4
theorem frame_out {m m' : Mem} {pb : Nat} (f : Fr (own pb F0 F0) m m') (h : m.next ≤ pb) : Fr F0 m m' := ⟨f.nw, f.gl, f.le, fun q hq _ => f.eq q hq (by
  rintro (h1 | h1 | h1)
  · omega
  · exact h1
  · exact h1)⟩
theorem own_new {m : Mem} {pb : Nat} {bN bO : Nat → Prop} (s : Sub m (own pb F0 F0) (own pb bN bO)) (h : m.next ≤ pb) {x : Nat} (k : own pb bN bO x) : m.next ≤ x := by
  refine Nat.le_of_not_lt fun hx => ?_
  rcases s x hx k with h1 | h1 | h1
  · omega
  · exact h1
  · exact h1
section
variable {m m' : Mem} {E : Int} {pb : Nat} {oN oO : Nat → Prop} {P P' : PS} {xb : XB} {ext : CallF} (hL : LH xb ext) (hX : XH ext)
theorem told_ev (hg : Good m.gl) {own : Nat → Prop} {ev : V} {c a : Int} (hr : ErrR m own ev (some (c, a))) (hL : LH xb ext) : ext 16 [ev] m = some (.tup [.int .i64 a, .int .i64 c], m) := by
  cases hr with
  | errno fb c a h hn => exact hL.toldE _ _ _ _ hg h
  | want fb wb s a h hw hn hv => exact hL.toldW _ _ _ _ _ hg h hw
include hL hX
set_option maxHeartbeats 2000000 in
theorem parse_spec (hN : New m) (hg : Good m.gl) (l : List UInt8) : ∃ v m', Ev Tryd.prog xb ext 5 [vs (txt l)] m v m' ∧ (Fr F0 m m' ∧ match parseL l with
    | .err a c => v = .tup [.agg [.nils, .nils], .int .i64 a, .int .i64 c]
    | .ok ops ns => ∃ ov nv, v = .tup [.agg [ov, nv], .int .i64 0, .int .i64 0] ∧ ProgO m m' ov nv ops ns) := by
  unfold parseL
  cases hT : lexT l with
  | err a c =>
    dsimp only
    refine ev_of (fun m => hL.no _ _ m (by decide)) Tryd.func5 rfl rfl ?_
    have hc0 : c ≠ 0 := lexT_err hT
    refine wc_seq (wc_region ?_)
    refine wo_alloc rfl rfl rfl rfl ?_
    intro g1 m1 o1 f1 l1
    have a1 := o1
    have fa := f1
    refine wa rfl rfl (wa rfl rfl (wo_nil (thenW_n (wc_seq (wc_region (wm rfl rfl ?_))))))
    obtain ⟨v, mt, hv, ft, hr⟩ := Tokens_spec (m := m1) hL (fa.nw hN) (by rw [fa.gl]; exact hg) l
    rw [hT] at hr
    subst hr
    have a2 := a1.fr ft (fun h => h)
    refine wo_call rfl rfl (by kernel_rfl) (hv) rfl rfl ?_
    refine wm rfl rfl (wx rfl rfl rfl (wx rfl rfl rfl (wx rfl rfl rfl (wa rfl rfl (wa rfl rfl (wa rfl rfl (wo_nil (thenW_n (wc_seq ?_)))))))))
    refine wc_seq (wc_region (wm rfl rfl (wo_n rfl (nv_neqT rfl rfl rfl (by first | assumption | decide | omega)) rfl rfl (wo_nil (thenW_n (wc_true rfl (wc_seq (wc_region (wo_n rfl (nv_buildS rfl rfl rfl) rfl rfl ?_)))))))))
    refine wm rfl rfl ?_
    refine wo_store rfl rfl rfl rfl (by assumption) rfl rfl (Nat.le_of_ble_eq_true rfl) rfl ?_
    intro m2 o2 f2 n2
    have x9 := o2.rowAll (n := 2) rfl
    have f9 := f2
    refine wa rfl rfl (wa rfl rfl (wo_nil (thenW_n (wc_ret (thenW_r ?_)))))
    refine endW_many (by intro i hi; cases hi) rfl (rs := [.cell 2 27, .tmp 3, .tmp 4]) (.cell rfl (by assumption) (.tmp rfl (.tmp rfl .nil))) (by simp) ?_
    exact ⟨fr_new (fa.trans ft (fun _ _ h => h)) f9 a2 l1, rfl⟩
  | ok ts =>
    dsimp only
    refine ev_of (fun m => hL.no _ _ m (by decide)) Tryd.func5 rfl rfl ?_
    refine wc_seq (wc_region ?_)
    refine wo_alloc rfl rfl rfl rfl ?_
    intro g1 m1 o1 f1 l1
    have a1 := o1
    have fa := f1
    refine wa rfl rfl (wa rfl rfl (wo_nil (thenW_n (wc_seq (wc_region (wm rfl rfl ?_))))))
    obtain ⟨v, mt, hv, ft, hr⟩ := Tokens_spec (m := m1) hL (fa.nw hN) (by rw [fa.gl]; exact hg) l
    rw [hT] at hr
    obtain ⟨tv, rfl, ow, htk, how⟩ := hr
    have a2 := a1.fr ft (fun h => h)
    have htv := RowR.form htk
    rcases htv with rfl | ⟨qq, rfl⟩
    all_goals
      refine wo_call rfl rfl (by kernel_rfl) (hv) rfl rfl ?_
      refine wm rfl rfl (wx rfl rfl rfl (wx rfl rfl rfl (wx rfl rfl rfl (wa rfl rfl (wa rfl rfl (wa rfl rfl (wo_nil (thenW_n (wc_seq ?_)))))))))
      refine wc_seq (wc_region (wm rfl rfl (wo_n rfl (nv_neqF rfl rfl rfl (by first | assumption | decide | omega)) rfl rfl (wo_nil (thenW_n (wc_false rfl (wc_skip (thenW_n (wc_seq ?_)))))))))
      refine wc_region (wm rfl rfl (wm rfl rfl ?_))
      first
        | refine wo_n rfl (nv_lenL rfl rfl rfl) rfl rfl ?_
        | refine wo_n rfl (nv_lenT rfl rfl rfl) rfl rfl ?_
      refine wo_n rfl (nv_buildS rfl rfl rfl) rfl rfl ?_
      refine wo_box rfl rfl rfl rfl rfl ?_
      intro g2 m2 o2 f2 l2
      have a3 := o2
      have fb := f2
      have lb := l2
      refine wa rfl rfl (wo_nil (thenW_n (wc_seq (wc_block ?_))))
      have lb' : m.next ≤ g2 := by have h1 := fa.le; have h2 := ft.le; omega
      have hle1 := fa.le
      have hle2 := ft.le
      have htk2 := htk.fr fb (fun _ _ _ h => h)
      have hgb : g1 < mt.next := Nat.lt_of_lt_of_le a1.lt ft.le
      have htR : TokR m2 (own g2 F0 F0) _ ts := (tokR_of (own' := own g2 F0 F0) htk (fun x hx => by
        rintro (h | h | h)
        · omega
        · exact h
        · exact h)).fr fb (fun _ _ h => h.elim) (fun _ _ h => h)
      have hNb : New m2 := fb.nw (ft.nw (fa.nw hN))
      have hR : Rep m2 (l.length : Nat) g2 F0 F0 { toks := ts } := ⟨⟨_, .nils, .nils, .nili, ⟨a3, htR, .nil, .nil, .none⟩⟩, fun h => h, fun h => h, fun _ h => h.elim, by simp, by simp, (show (0 : Int) ≤ 0 by decide), (show (0 : Int) ≤ 40 by decide), hNb, fun _ h => h.elim, fun _ h => h.elim, by rw [fb.gl, ft.gl, fa.gl]; exact hg⟩
      have w0 : Wx m (l.length : Nat) g2 F0 F0 27 g1 [.nils, .nils] m2 { toks := ts } := ⟨a2.fr fb (fun h => h), ⟨F0, F0, hR, by
        rintro (h | h | h)
        · omega
        · exact h
        · exact h, fun _ _ h => h⟩, ((fa.trans ft (fun _ _ h => h)).trans fb (fun _ _ h => h)).mono (fun _ _ h => h.elim), l1⟩
      refine wc_loop (fun k e mj => ∃ P', ELe (envL [(0, vs (txt l)), (2, .ptr g1 0), (8, .ptr g2 0)]) e ∧ Wx m (l.length : Nat) g2 F0 F0 27 g1 [.nils, .nils] mj P' ∧ opsM (l.length : Nat) (ts.length + 1) { toks := ts } = opsM (l.length : Nat) k P' ∧ (P'.toks.length < k ∨ is P' kop = false) ∧ P'.toks.length ≤ ts.length) (ts.length + 1) ⟨{ toks := ts }, ?_, w0, rfl, .inl (Nat.lt_succ_self _), Nat.le_refl _⟩ ?_
      · exact .cons rfl (.cons rfl (.cons rfl (.nil _)))
      rintro k e mj ⟨P', he, w, heq, hk, hle⟩
      refine Wc.weak ?_ he
      clear he
      obtain ⟨aN, aO, r, hn, s⟩ := w.p
      have his := is_spec (xb := xb) hX.no r kop
      cases hop : is P' kop with
      | true =>
        rw [hop] at his hk
        rcases hk with hk | hk
        · skip
          obtain ⟨k, rfl⟩ : ∃ j, k = j + 1 := ⟨k - 1, by omega⟩
          obtain ⟨mo, hho, w2, lo⟩ := w.call fun _ _ r => op_spec (xb := xb) hX r
          refine wc_seq (wc_seq (wc_region (wm rfl rfl ?_)))
          refine wo_call rfl rfl (by kernel_rfl) (his) rfl rfl ?_
          refine wo_nil (thenW_n (wc_true rfl (wc_skip (thenW_n (wc_block (wc_region (wm rfl rfl ?_)))))))
          refine wo_call rfl rfl (by kernel_rfl) (hho) rfl rfl ?_
          refine wo_nil (blockW_n ?_)
          refine ⟨k, Nat.lt_succ_self _, opM (l.length : Nat) P', .cons rfl (.cons rfl (.cons rfl (.nil _))), w2, ?_, ?_, Nat.le_trans (opM_le _).2 hle⟩
          · rw [heq]; simp only [opsM]; rw [if_pos hop]
          · rcases opM_lt (E := (l.length : Nat)) hop with h | h
            · left; omega
            · exact .inr h
        · cases hk
      | false =>
        rw [hop] at his
        have heq' : opsM (l.length : Nat) (ts.length + 1) { toks := ts } = P' := by
          rw [heq]
          cases k with
          | zero => rfl
          | succ k => simp only [opsM]; rw [hop]; rfl
        obtain ⟨⟨vi, Q⟩, hrun⟩ : ∃ r, run (l.length : Nat) (fuelOf ts) .inner P' = some r := Option.ne_none_iff_exists'.1 (run_fuel hle)
        have hPP : parseP (l.length : Nat) ts = endM (l.length : Nat) Q := by unfold parseP; rw [heq']; dsimp only; rw [hrun]
        obtain ⟨mi, hi, w2, li⟩ := w.call fun _ _ r => (spec_all (xb := xb) (pb := g2) hX (fuelOf ts)).inner r hrun
        obtain ⟨bN, bO, r2, hn2, s2⟩ := w2.p
        obtain ⟨nv, hnv, hNR⟩ := next_spec (xb := xb) hX.no r2
        cases hnx : next Q with
        | some t =>
          rw [hnx] at hNR
          obtain ⟨tb, tz, rfl, hA, hno, hbl⟩ := hNR
          have hE' : endM (l.length : Nat) Q = fail (l.length : Nat) 403 Q := by unfold endM; rw [hnx]
          obtain ⟨z, hz⟩ := fail_err (E := (l.length : Nat)) 403 Q
          obtain ⟨zc, za⟩ := z
          have hM : parseM (l.length : Nat) ts = .err za zc := by unfold parseM; rw [hPP, hE', hz]
          rw [hM]
          refine wc_seq (wc_seq (wc_region (wm rfl rfl ?_)))
          refine wo_call rfl rfl (by kernel_rfl) (his) rfl rfl ?_
          refine wo_nil (thenW_n (wc_false rfl (wc_exit (thenW_x ?_))))
          refine blockW_x (thenW_n (wc_seq (wc_region (wm rfl rfl ?_))))
          refine wo_call rfl rfl (by kernel_rfl) (hi) rfl rfl ?_
          refine wo_nil (thenW_n (wc_seq (wc_seq (wc_region (wm rfl rfl ?_)))))
          refine wo_call rfl rfl (by kernel_rfl) (hnv) rfl rfl ?_
          refine wo_n rfl (nv_neqP rfl rfl rfl) rfl rfl (wo_nil (thenW_n (wc_true rfl (wc_region (wm rfl rfl (wo_n rfl (nv_buildS rfl rfl rfl) rfl rfl ?_))))))
          refine wo_box rfl rfl rfl rfl rfl ?_
          intro g1 m1 o1 f1 l1
          have r4 := r2.alloc f1
          have hgn : ¬ own g2 bN bO g1 := fun hc => Nat.lt_irrefl _ (Nat.lt_of_lt_of_le (r2.lt hc) l1)
          obtain ⟨mf, hf, pf⟩ := fail_spec (xb := xb) hX.no r4 (.want g1 (txt [101, 110, 100]) o1 hgn)
          have w3 := w2.to hn2 s2 (.alloc r2 f1 pf)
          refine wo_n rfl (nv_mkI rfl rfl) rfl rfl ?_
          refine wo_call rfl rfl (by kernel_rfl) (hf) rfl rfl ?_
          obtain ⟨cN, cO, r5, hn5, s5⟩ := w3.p
          obtain ⟨tv5, ov5, nv5, t5, v5, hp5⟩ := r5.hasErr hz
          have c5 := hp5.obj.cell (i := 4) rfl
          have he5 := hp5.err
          rw [hz] at he5
          have ht5 := ev_ext (p := Tryd.prog) (xb := xb) (told_ev r5.gl he5 hL)
          have b5 := w3.b
          refine wo_nil (thenW_n (wc_seq (wc_seq (wc_region (wm rfl rfl (wk rfl rfl rfl (wf rfl rfl ?_)))))))
          refine wo_m rfl (mv_load rfl rfl (by assumption)) rfl rfl ?_
          refine wo_n rfl (nv_neqI rfl rfl rfl) rfl rfl (wo_nil (thenW_n (wc_true rfl (wc_seq (wc_region (wm rfl rfl (wk rfl rfl rfl (wf rfl rfl ?_))))))))
          refine wo_m rfl (mv_load rfl rfl (by assumption)) rfl rfl ?_
          refine wo_call rfl rfl (by kernel_rfl) (ht5) rfl rfl ?_
          refine wm rfl rfl (wx rfl rfl rfl (wx rfl rfl rfl (wa rfl rfl (wa rfl rfl (wo_nil (thenW_n (wc_seq (wc_region (wo_n rfl (nv_buildS rfl rfl rfl) rfl rfl ?_)))))))))
          refine wm rfl rfl (wm rfl rfl ?_)
          refine wo_store rfl rfl rfl rfl (by assumption) rfl rfl (Nat.le_of_ble_eq_true rfl) rfl ?_
          intro m2 o2 f2 n2
          have x9 := o2.rowAll (n := 2) rfl
          have w4 := w3.store o2 f2
          refine wa rfl rfl (wa rfl rfl (wo_nil (thenW_n (wc_ret (thenW_r ?_)))))
          refine endW_many (by intro i hi; cases hi) rfl (rs := [.cell 2 27, .tmp 3, .tmp 4]) (.cell rfl (by assumption) (.tmp rfl (.tmp rfl .nil))) (by simp) ?_
          exact ⟨frame_out w4.f lb', rfl⟩
        | none =>
          rw [hnx] at hNR
          cases hNR
          have hE' : endM (l.length : Nat) Q = Q := by unfold endM; rw [hnx]
          cases hz : Q.err with
          | some z =>
            obtain ⟨zc, za⟩ := z
            have hM : parseM (l.length : Nat) ts = .err za zc := by unfold parseM; rw [hPP, hE', hz]
            rw [hM]
            obtain ⟨tv5, ov5, nv5, t5, v5, hp5⟩ := r2.hasErr hz
            have c5 := hp5.obj.cell (i := 4) rfl
            have he5 := hp5.err
            rw [hz] at he5
            have ht5 := ev_ext (p := Tryd.prog) (xb := xb) (told_ev r2.gl he5 hL)
            have b5 := w2.b
            refine wc_seq (wc_seq (wc_region (wm rfl rfl ?_)))
            refine wo_call rfl rfl (by kernel_rfl) (his) rfl rfl ?_
            refine wo_nil (thenW_n (wc_false rfl (wc_exit (thenW_x ?_))))
            refine blockW_x (thenW_n (wc_seq (wc_region (wm rfl rfl ?_))))
            refine wo_call rfl rfl (by kernel_rfl) (hi) rfl rfl ?_
            refine wo_nil (thenW_n (wc_seq (wc_seq (wc_region (wm rfl rfl ?_)))))
            refine wo_call rfl rfl (by kernel_rfl) (hnv) rfl rfl ?_
            refine wo_n rfl (nv_neqQ rfl rfl rfl) rfl rfl (wo_nil (thenW_n (wc_false rfl (wc_skip (thenW_n (wc_seq (wc_seq (wc_region (wm rfl rfl ?_)))))))))
            refine wk rfl rfl rfl (wf rfl rfl ?_)
            refine wo_m rfl (mv_load rfl rfl (by assumption)) rfl rfl ?_
            refine wo_n rfl (nv_neqI rfl rfl rfl) rfl rfl (wo_nil (thenW_n (wc_true rfl (wc_seq (wc_region (wm rfl rfl (wk rfl rfl rfl (wf rfl rfl ?_))))))))
            refine wo_m rfl (mv_load rfl rfl (by assumption)) rfl rfl ?_
            refine wo_call rfl rfl (by kernel_rfl) (ht5) rfl rfl ?_
            refine wm rfl rfl (wx rfl rfl rfl (wx rfl rfl rfl (wa rfl rfl (wa rfl rfl (wo_nil (thenW_n (wc_seq (wc_region (wo_n rfl (nv_buildS rfl rfl rfl) rfl rfl ?_)))))))))
            refine wm rfl rfl (wm rfl rfl ?_)
            refine wo_store rfl rfl rfl rfl (by assumption) rfl rfl (Nat.le_of_ble_eq_true rfl) rfl ?_
            intro m1 o1 f1 n1
            have x9 := o1.rowAll (n := 2) rfl
            have w4 := w2.store o1 f1
            refine wa rfl rfl (wa rfl rfl (wo_nil (thenW_n (wc_ret (thenW_r ?_)))))
            refine endW_many (by intro i hi; cases hi) rfl (rs := [.cell 2 27, .tmp 3, .tmp 4]) (.cell rfl (by assumption) (.tmp rfl (.tmp rfl .nil))) (by simp) ?_
            exact ⟨frame_out w4.f lb', rfl⟩
          | none =>
            have hM : parseM (l.length : Nat) ts = .ok Q.ops Q.ns := by unfold parseM; rw [hPP, hE', hz]
            rw [hM]
            obtain ⟨tv5, ov5, nv5, hp5⟩ := r2.noErr hz
            have c5 := hp5.obj.cell (i := 4) rfl
            have c52 := hp5.obj.cell (i := 2) rfl
            have c53 := hp5.obj.cell (i := 3) rfl
            have b5 := w2.b
            have hro := hp5.ops
            have hrn := hp5.ns
            have hfo := RowR.form hro
            have hfn := RowR.form hrn
            rcases hfo with rfl | ⟨qo, rfl⟩ <;> rcases hfn with rfl | ⟨qn, rfl⟩
            all_goals
              refine wc_seq (wc_seq (wc_region (wm rfl rfl ?_)))
              refine wo_call rfl rfl (by kernel_rfl) (his) rfl rfl ?_
              refine wo_nil (thenW_n (wc_false rfl (wc_exit (thenW_x ?_))))
              refine blockW_x (thenW_n (wc_seq (wc_region (wm rfl rfl ?_))))
              refine wo_call rfl rfl (by kernel_rfl) (hi) rfl rfl ?_
              refine wo_nil (thenW_n (wc_seq (wc_seq (wc_region (wm rfl rfl ?_)))))
              refine wo_call rfl rfl (by kernel_rfl) (hnv) rfl rfl ?_
              refine wo_n rfl (nv_neqQ rfl rfl rfl) rfl rfl (wo_nil (thenW_n (wc_false rfl (wc_skip (thenW_n (wc_seq (wc_seq (wc_region (wm rfl rfl ?_)))))))))
              refine wk rfl rfl rfl (wf rfl rfl ?_)
              refine wo_m rfl (mv_load rfl rfl (by assumption)) rfl rfl ?_
              refine wo_n rfl (nv_neqN rfl rfl rfl rfl) rfl rfl (wo_nil (thenW_n (wc_false rfl (wc_skip (thenW_n (wc_seq ?_))))))
              refine wc_draw (by kernel_rfl) ?_
              refine wd_cast (l' := [0, 1, 2, 3, 4, 5, 6, 7, 8, 9, 10, 11]) (by kernel_rfl) rfl ?_
              refine wd_n rfl rfl rfl (nv_move rfl rfl) rfl rfl ?_
              refine wd_n rfl rfl rfl (nv_nil rfl rfl rfl) rfl rfl ?_
              refine wd_n rfl rfl rfl (nv_fa rfl rfl) rfl rfl ?_
              refine wd_load rfl rfl rfl rfl (by assumption) rfl rfl ?_
              refine wd_n rfl rfl rfl (nv_move rfl rfl) rfl rfl ?_
              refine wd_n rfl rfl rfl (nv_nil rfl rfl rfl) rfl rfl ?_
              refine wd_n rfl rfl rfl (nv_fa rfl rfl) rfl rfl ?_
              refine wd_load rfl rfl rfl rfl (by assumption) rfl rfl ?_
              refine wd_n rfl rfl rfl (nv_buildS rfl rfl rfl) rfl rfl ?_
              refine wd_store rfl rfl rfl rfl rfl (by assumption) rfl rfl (Nat.le_of_ble_eq_true rfl) (by kernel_rfl) (by kernel_rfl) rfl ?_
              intro m1 o1 f1 n1
              have x9 := o1.rowAll (n := 2) rfl
              have f9 := f1
              have w4 := w2.store o1 f1
              refine wd_n rfl rfl rfl (nv_assign rfl rfl) rfl rfl ?_
              refine wd_n rfl rfl rfl (nv_assign rfl rfl) rfl rfl ?_
              refine wd_nil ?_
              refine thenW_n (wc_ret ?_)
              refine endW_many (by intro i hi; cases hi) rfl (rs := [.cell 2 27, .tmp 3, .tmp 4]) (.cell rfl (by assumption) (.tmp rfl (.tmp rfl .nil))) (by simp) ?_
              refine ⟨frame_out w4.f lb', _, _, rfl, ⟨⟨bO, bN, hro.fr f9 (fun x hx k e => hn2 (e ▸ .inr (.inr k))), hrn.fr f9 (fun x hx k e => hn2 (e ▸ .inr (.inl k))), fun x h => ?_, fun x h => ?_, r2.dd, fun x h => Nat.lt_of_lt_of_le (r2.lN x h) f9.le, fun x h => Nat.lt_of_lt_of_le (r2.lO x h) f9.le⟩, r2.nl, r2.ol⟩⟩
              · exact own_new s2 lb' (.inr (.inr h))
              · exact own_new s2 lb' (.inr (.inl h))
end
end Go.Proofs.YtppcjlplihiiiaaDoor.Sy

namespace Go.Ev
open Go
set_option linter.unusedVariables false
set_option linter.unusedSimpArgs false
def eqN (p : Program) (t : TypeId) : Option (List (TypeId × Nat)) := match p.underlying t with
  | some (.struct fs) => bif !p.eqGuardType p.depth t && !p.stoodInHeld t && fs.toList.all (fun f => !(f.name == "_")) then some (fs.toList.map fun f => (f.type, f.offset)) else none
  | _ => none
class EqT (p : Program) (t : Nat) (l : outParam (List (TypeId × Nat))) : Prop where
  eq : eqN p t = some l
def scalV (p : Program) (t : TypeId) (v : V) : Bool := match p.underlying t, v with
  | some .bool, .bool _ => true
  | some (.int _), .int _ _ => true
  | some .string, .str _ _ => true
  | _, _ => false
def scalL (p : Program) (cs : List V) : List (TypeId × Nat) → Bool
  | [] => true
  | (t, o) :: r => (match cs[o]? with | some v => scalV p t v | none => false) && scalL p cs r
theorem scal_part {p : Program} {t : TypeId} {cs : List V} {o : Nat} {v : V} {n : Nat} (h : cs[o]? = some v) (hs : scalV p t v = true) : partV p t cs o = some v ∧ eqV p (n + 1) t v v = some true := by
  unfold scalV at hs
  split at hs
  · rename_i b hd
    refine ⟨by unfold partV; rw [hd]; exact h, ?_⟩
    unfold eqV; rw [hd]; cases b <;> rfl
  · rename_i k k' a hd
    refine ⟨by unfold partV; rw [hd]; exact h, ?_⟩
    unfold eqV; rw [hd]; dsimp only; rw [kE, iE rfl]; rfl
  · rename_i l b hd
    refine ⟨by unfold partV; rw [hd]; exact h, ?_⟩
    unfold eqV; rw [hd]; dsimp only; unfold strEq; rw [Nat.beq_refl, Nat.beq_refl]; rfl
  · cases hs
theorem eqFW_self {p : Program} {cs : List V} {n : Nat} : ∀ fs : List Field, fs.all (fun f => !(f.name == "_")) = true → scalL p cs (fs.map fun f => (f.type, f.offset)) = true → eqFW p (eqV p (n + 1)) fs cs cs = some true := by
  intro fs
  induction fs with
  | nil => intro _ _; rfl
  | cons f fs ih =>
    intro h1 h2
    simp only [List.all_cons, Bool.and_eq_true] at h1
    simp only [List.map_cons, scalL, Bool.and_eq_true] at h2
    have hnm : ¬ f.name = "_" := by have := h1.1; simp at this; exact this
    obtain ⟨h2, h3⟩ := h2
    split at h2
    · rename_i v hv
      obtain ⟨e1, e2⟩ := scal_part (n := n) hv h2
      simp only [eqFW]
      rw [if_neg hnm, e1]
      dsimp only
      rw [e2]
      exact ih h1.2 h3
    · cases h2
section
variable {p : Program} {xb : XB} {ext : CallF} {nt : Nat} {ops : Array Oper} {e : Env} {m : Mem} {o : Oper} {r : List Oper} {Q : Env → Mem → Prop} {t z : TypeId} {x y : Operand} {l : List (TypeId × Nat)} {cs : List V}
theorem eqV_self [h : EqT p t l] (hs : scalL p cs l = true) : guardOk p t x y (.agg cs) (.agg cs) = true ∧ eqV p (9999 + 1) t (.agg cs) (.agg cs) = some true := by
  have h := h.eq
  unfold eqN at h
  split at h
  case h_2 => cases h
  rename_i fs hd
  simp only [bif_some, Bool.and_eq_true, Option.some.injEq] at h
  obtain ⟨⟨⟨h1, h2⟩, h3⟩, rfl⟩ := h
  refine ⟨h1, ?_⟩
  unfold eqV
  rw [hd]
  dsimp only
  rw [show p.stoodInHeld t = false by simpa using h2, cond_false]
  exact eqFW_self _ h3 hs
theorem nv_eqlA [h : EqT p t l] (ho : o.op = .binOp .eql t x y z) (hx : evalO e x = some (.agg cs)) (hy : evalO e y = some (.agg cs)) (hs : scalL p cs l = true) : NV p e o (.bool true) := nv_bin ho hx hy (by
  obtain ⟨h1, h2⟩ := eqV_self (t := t) (x := x) (y := y) hs
  show (bif guardOk p t x y (.agg cs) (.agg cs) then (eqV p (9999 + 1) t (.agg cs) (.agg cs)).map V.bool else none) = _
  rw [h1, h2]; rfl)
theorem nv_neqA [h : EqT p t l] (ho : o.op = .binOp .neq t x y z) (hx : evalO e x = some (.agg cs)) (hy : evalO e y = some (.agg cs)) (hs : scalL p cs l = true) : NV p e o (.bool false) := nv_bin ho hx hy (by
  obtain ⟨h1, h2⟩ := eqV_self (t := t) (x := x) (y := y) hs
  show (bif guardOk p t x y (.agg cs) (.agg cs) then (eqV p (9999 + 1) t (.agg cs) (.agg cs)).map (fun b => V.bool (!b)) else none) = _
  rw [h1, h2]; rfl)
theorem wo_callv {f : FuncId} {w : Operand} {az : Array Operand} {ts : Array TypeId} {vs : List V} {v : V} {m' : Mem} {d : Tmp} [hb : HasB p f] (hw : wantedV ops e o = some true) (ho : o.op = .call ⟨.value w, az, ts⟩) (hf : evalO e w = some (.fn (.func f) [] [])) (ha : evalL e az.toList = some vs)
    (hc : Ev p xb ext f vs m v m') (hd : o.dst = some d) (hn : Nat.blt d nt = true) (h : Wo p xb ext nt ops r (e.set d v) m' Q) : Wo p xb ext nt ops (o :: r) e m Q := wo_step (fun e2 he => by
  obtain ⟨n, hc⟩ := hc
  refine ⟨n, fun k hk => ?_⟩
  unfold stepV opV
  rw [Wt.of hw e2 he]
  dsimp only
  unfold nV memV
  rw [ho]
  dsimp only
  unfold callV
  dsimp only
  rw [he.evalL ha, he.evalO hf]
  dsimp only [fnV]
  rw [List.nil_append, List.append_nil]
  unfold externV
  have h1 := hb.eq
  unfold hasB at h1
  cases hff : p.funcs[f]? with
  | none => rw [hff] at h1; cases h1
  | some fn =>
    rw [hff] at h1
    dsimp only at h1 ⊢
    cases hbd : fn.body with
    | none => rw [hbd] at h1; cases h1
    | some c => exact hc k hk) hd hn h
end
section
variable {p : Program} {e : Env} {o : Oper} {t z : TypeId} {x y : Operand} {l r : List UInt8}
theorem nv_saddL (ho : o.op = .binOp .add t x y z) (hx : evalO e x = some (vs (txt l))) (hy : evalO e y = some (vs (txt r))) (h : l.length + r.length ≤ 9223372036854775807) : NV p e o (vs (txt (l ++ r))) := by
  rw [← txt_append]
  exact nv_sadd ho hx hy h
end
end Go.Ev
