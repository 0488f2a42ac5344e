/- Several texts in one: contracts of functions of the program, and what they lean on. In part written by a program of this session over the kit's print, in part by hand. -/
import Derived.Test.YtfcjpkkglffnmaaDoorYScopeForms2
import Derived.Test.YtfcjpkkglffnmaaDoorYScopeForms3
import Derived.Test.YtfcjpkkglffnmaaDoorYScopeForms4
import Derived.Deep.RegionHeld3
import Derived.IntWalk
namespace Go.Proofs.YtfcjpkkglffnmaaDoor.H
open Go.RowKit Go.Proofs.YtfcjpkkglffnmaaDoorW.PrintWords Go.Proofs.YtfcjpkkglffnmaaDoorW.PrintLast Go.Proofs.YtfcjpkkglffnmaaDoorW.PrintMore
attribute [local go_sem] max2_int min2_int max_two min_two max_three min_three max_four min_four
set_option linter.unusedVariables false
set_option linter.unusedSimpArgs false
def scope_Resolve.f (k : Nat) (l0 : List (S45)) (l1 : List (S34)) : Option ((List (S45)) × (List (S34)) × Int × Int) :=
  (tree_May.f k l0 l1).bind fun m => if m = true then (if l0.length ≤ 4 ∧ 1 ≤ l1.length ∧ l1.length ≤ 512 ∧ (l0.all fun o => decide (o.f0.size ≤ 1000)) = true then
    (if twiceGo [] l0 = true then some ([], [], 0, 602) else (rnode.f k l0 l1 ((l1.length : Int) - 1) []).bind fun p => match p.1 with
      | none => some (l0, p.2, 0, 0)
      | some (a, c) => if c = 0 then none else some ([], [], a, c)) else none) else some ([], [], 0, 600)
theorem resolve_start (w : World) (A0 A1 : Option Addr) (n0 c0 n1 c1 : Nat) : Below w.heap.size w ((w.alloc (.cells #[.slice A0 n0 c0, .slice A1 n1 c1] 25)).alloc (.cells #[.slice none 0 0, .slice none 0 0] 25)) ∧
    ((w.alloc (.cells #[.slice A0 n0 c0, .slice A1 n1 c1] 25)).alloc (.cells #[.slice none 0 0, .slice none 0 0] 25)).heap[w.heap.size]? = some (.cells #[.slice A0 n0 c0, .slice A1 n1 c1] 25 (0, 0)) ∧ ((w.alloc (.cells #[.slice A0 n0 c0, .slice A1 n1 c1] 25)).alloc (.cells #[.slice none 0 0, .slice none 0 0] 25)).heap[w.heap.size + 1]? = some (.cells #[.slice none 0 0, .slice none 0 0] 25 (0, 0)) ∧
    ((w.alloc (.cells #[.slice A0 n0 c0, .slice A1 n1 c1] 25)).alloc (.cells #[.slice none 0 0, .slice none 0 0] 25)).heap.size = w.heap.size + 2 :=
  ⟨((Below.refl _ _).alloc (Nat.le_refl _) _).alloc (by simp) _, blk_alloc (heap_alloc_new w _) _, new_at (by simp) _, by simp⟩
set_option maxRecDepth 100000 in
set_option maxHeartbeats 8000000 in
theorem scope_Resolve.calls (k : Nat) (A0_0 : Option Addr) (c0_0 : Nat) (l0_0 : List (S45)) (A0_1 : Option Addr) (c0_1 : Nat) (l0_1 : List (S34)) (r1 : List (S45)) (r2 : List (S34)) (r3 : Int) (r4 : Int) (w : World) (hr0_0 : Kd.C k45 w A0_0 l0_0.length l0_0) (hc0_0 : l0_0.length ≤ c0_0) (hr0_1 : Kd.C k34 w A0_1 l0_1.length l0_1) (hc0_1 : l0_1.length ≤ c0_1) (h : scope_Resolve.f k l0_0 l0_1 = some (r1, r2, r3, r4)) (hG : Err.ErrTy w) :
    Calls Tryd.prog 8 #[.agg #[.slice A0_0 l0_0.length c0_0, .slice A0_1 l0_1.length c0_1]] w fun e w' => ∃ v0_ v1_ : Value, e = .returned (.tuple #[.agg #[v0_, v1_], .int .i64 r3, .int .i64 r4]) ∧ Kd.R k45 45 w' w.heap.size (fun _ => True) v0_ r1 ∧ Kd.R k34 34 w' w.heap.size (fun _ => True) v1_ r2 ∧ Below w.heap.size w w' := by
  unfold scope_Resolve.f at h
  replace h := Option.bind_eq_some_iff.mp h
  obtain ⟨m, hm, h⟩ := h
  have HC0 := Aside0.mk hr0_0
  have HC1 := Aside0.mk hr0_1
  have HL0 := Aside0.mk hc0_0
  have HL1 := Aside0.mk hc0_1
  have HM := Aside0.mk hm
  have HG := Aside0.mk hG
  have HB := Aside0.mk (Below.refl w.heap.size w)
  clear hr0_0 hr0_1 hc0_0 hc0_1 hm hG
  cases m with
  | false =>
    simp only [Bool.false_eq_true, if_false, Option.some.injEq, Prod.mk.injEq] at h
    obtain ⟨rfl, rfl, rfl, rfl⟩ := h
    have P2 := Aside0.mk (resolve_start w A0_0 A0_1 l0_0.length c0_0 l0_1.length c0_1)
    go_enter Tryd.func8, Tryd.ntmps8
    go_wp2_with fail
    generalize hW2 : ((w.alloc (.cells #[.slice A0_0 l0_0.length c0_0, .slice A0_1 l0_1.length c0_1] 25)).alloc (.cells #[.slice none 0 0, .slice none 0 0] 25)) = w2 at *
    clear hW2
    refine (tree_May.calls k A0_0 c0_0 l0_0 A0_1 c0_1 l0_1 false w2 (Kd.C_below HC0.out P2.out.1) HL0.out (Kd.C_below HC1.out P2.out.1) HL1.out HM.out).mono ?_
    rintro e w3 ⟨rfl, hb3⟩
    have BR := Aside0.mk (blk_below P2.out.2.2.1 hb3)
    have HB3 := Aside0.mk (P2.out.1.trans (hb3.mono P2.out.1.size))
    have r0 : w3.cell? ⟨w.heap.size + 1, 0, none⟩ = some (.slice none 0 0) := blk_cell BR.out 0
    have r1 : w3.cell? ⟨w.heap.size + 1, 1, none⟩ = some (.slice none 0 0) := blk_cell BR.out 1
    have f0 : w3.frozen? ⟨w.heap.size + 1, 0, none⟩ = false := blk_frozen BR.out 0
    have f1 : w3.frozen? ⟨w.heap.size + 1, 1, none⟩ = false := blk_frozen BR.out 1
    clear hb3
    go_wp2_with fail
    refine bodyPost_ret (results_ctt rfl _ _ (w.heap.size + 1) 25 #[.slice none 0 0, .slice none 0 0] (0, 0) _ rfl (blk_set (blk_set BR.out 0 (.slice none 0 0)) 1 (.slice none 0 0)) Tryd.underlying25 rfl (by kernel_rfl)) rfl ?_
    exact ⟨_, _, rfl, Kd.R_nil _ _ _ _ _, Kd.R_nil _ _ _ _ _, (HB3.out.setCell (by show w.heap.size ≤ w.heap.size + 1; omega) _).setCell (by show w.heap.size ≤ w.heap.size + 1; omega) _⟩
  | true =>
    simp only [if_true] at h
    by_cases hc : l0_0.length ≤ 4 ∧ 1 ≤ l0_1.length ∧ l0_1.length ≤ 512 ∧ (l0_0.all fun o => decide (o.f0.size ≤ 1000)) = true
    · rw [if_pos hc] at h
      obtain ⟨h4, h1, h512, hall⟩ := hc
      have hsz : ∀ o ∈ l0_0, o.f0.size ≤ 1000 := fun o ho => of_decide_eq_true (List.all_eq_true.1 hall o ho)
      have HSZ := Aside0.mk hsz
      obtain ⟨ad, rfl, _⟩ := HC1.out.2.2 (by omega)
      have P2 := Aside0.mk (resolve_start w A0_0 (some ad) l0_0.length c0_0 l0_1.length c0_1)
      clear hall hsz
      cases ht : twiceGo [] l0_0
      · rw [ht] at h
        simp only [Bool.false_eq_true, if_false] at h
        replace h := Option.bind_eq_some_iff.mp h
        obtain ⟨⟨re, ns'⟩, hre, h⟩ := h
        have HT := Aside0.mk ht
        have HRE := Aside0.mk hre
        have H := Aside0.mk h
        clear ht hre h
        go_enter Tryd.func8, Tryd.ntmps8
        go_wp2_with fail
        generalize hW2 : ((w.alloc (.cells #[.slice A0_0 l0_0.length c0_0, .slice (some ad) l0_1.length c0_1] 25)).alloc (.cells #[.slice none 0 0, .slice none 0 0] 25)) = w2 at *
        clear hW2
        refine (tree_May.calls k A0_0 c0_0 l0_0 (some ad) c0_1 l0_1 true w2 (Kd.C_below HC0.out P2.out.1) HL0.out (Kd.C_below HC1.out P2.out.1) HL1.out HM.out).mono ?_
        rintro e w3 ⟨rfl, hb3⟩
        have BR := Aside0.mk (blk_below P2.out.2.2.1 hb3)
        have BP := Aside0.mk (blk_below P2.out.2.1 hb3)
        have HB3 := Aside0.mk (P2.out.1.trans (hb3.mono P2.out.1.size))
        have p0 : w3.cell? ⟨w.heap.size, 0, none⟩ = some (.slice A0_0 l0_0.length c0_0) := blk_cell BP.out 0
        have p1 : w3.cell? ⟨w.heap.size, 1, none⟩ = some (.slice (some ad) l0_1.length c0_1) := blk_cell BP.out 1
        clear hb3
        go_wp2_with fail
        refine (twice_calls A0_0 c0_0 l0_0 w3 (Kd.C_below HC0.out HB3.out) h4 HSZ.out).mono ?_
        rintro e w4 ⟨rfl, hb4⟩
        rw [HT.out]
        have HB4 := Aside0.mk (HB3.out.trans (hb4.mono HB3.out.size))
        have BR4 := Aside0.mk (blk_below BR.out hb4)
        have BP4 := Aside0.mk (blk_below BP.out hb4)
        have p0 : w4.cell? ⟨w.heap.size, 0, none⟩ = some (.slice A0_0 l0_0.length c0_0) := blk_cell BP4.out 0
        have p1 : w4.cell? ⟨w.heap.size, 1, none⟩ = some (.slice (some ad) l0_1.length c0_1) := blk_cell BP4.out 1
        clear hb4 BR BP
        have S0 : w4.cell? ⟨w.heap.size, 0, none⟩ = some (.slice A0_0 l0_0.length c0_0) ∧ w4.cell? ⟨w.heap.size, 1, none⟩ = some (.slice (some ad) l0_1.length c0_1) := ⟨p0, p1⟩
        have hws : w.heap.size < w4.heap.size := World.block_lt_of_cell? w4 _ p0
        go_wp2_with fail
        go_region_held3 (fun w' => w'.cell? ⟨w.heap.size, 0, none⟩ = some (.slice A0_0 l0_0.length c0_0) ∧ w'.cell? ⟨w.heap.size, 1, none⟩ = some (.slice (some ad) l0_1.length c0_1)) (first | go_keep | exact S0 | exact S5.out | exact S6.out)
          ((first
            | (go_at_call 18; refine (cloneOps_any A0_0 c0_0 l0_0 _ ?g0 (by omega)).mono ?_; (case g0 => exact Kd.C_drew (Kd.C_below HC0.out HB4.out)); rintro e w5 ⟨v5, rfl, hr5, hb5⟩; obtain ⟨Ao, co, rfl⟩ := Kd.R_slice hr5; have hb5 : Below w4.heap.size w4 w5 := (below_drew (Below.refl _ _)).trans hb5; have Z5 := Aside0.mk hb5.size; have R5 := Aside0.mk (show Kd.R k45 45 w5 w4.heap.size (fun _ => True) (.slice Ao l0_0.length co) l0_0 from hr5); have S5 := Aside0.mk (show w5.cell? ⟨w.heap.size, 0, none⟩ = some (.slice A0_0 l0_0.length c0_0) ∧ w5.cell? ⟨w.heap.size, 1, none⟩ = some (.slice (some ad) l0_1.length c0_1) from ⟨pw_cell_below hb5 S0.1, pw_cell_below hb5 S0.2⟩); have BR5 := Aside0.mk (blk_below BR4.out hb5); have HB5 := Aside0.mk (HB4.out.trans (hb5.mono HB4.out.size)); clear hr5 hb5)
            | (go_at_call 19; refine (clone_calls ad c0_1 l0_1 _ ?g1 (by omega)).mono ?_; (case g1 => exact Kd.C_below HC1.out HB5.out); rintro e w6 ⟨v6, rfl, hr6, hb6⟩; obtain ⟨gn, cap, rfl, hg0, hg1, _⟩ := Kd.R_form hr6 (by omega); have R6 := Aside0.mk hr6; have Q6 := Aside0.mk (Kd.R_below R5.out hb6); have S6 := Aside0.mk (show w6.cell? ⟨w.heap.size, 0, none⟩ = some (.slice A0_0 l0_0.length c0_0) ∧ w6.cell? ⟨w.heap.size, 1, none⟩ = some (.slice (some ad) l0_1.length c0_1) from ⟨pw_cell_below hb6 S5.out.1, pw_cell_below hb6 S5.out.2⟩); have BR6 := Aside0.mk (blk_below BR5.out hb6); have HB6 := Aside0.mk (HB5.out.trans (hb6.mono HB5.out.size)); have Z6 := Aside0.mk hb6.size; have HY56 := Aside0.mk hb6; clear hr6 hb6)))
        have hgn4 : gn < w6.heap.size := hg1
        have O7 := Aside0.mk (Kd.F_mono (Kd.F_alloc (Kd.F_below (Kd.R_F (Kd.R_bound R5.out)) (show Below w5.heap.size w5 w6 from HY56.out)) (.cells #[.slice Ao l0_0.length co, .slice (some ⟨gn, 0, none⟩) l0_1.length cap] 51)) (fun k hk => (show k ≠ gn by have := hk.2.2.1; omega)))
        have N7 := Aside0.mk (Kd.R_alloc (Kd.R_mono (Kd.R_tight rfl R6.out) (fun k hk => (show k = gn by have h9 : some k = some gn := hk; injection h9))) (.cells #[.slice Ao l0_0.length co, .slice (some ⟨gn, 0, none⟩) l0_1.length cap] 51))
        have G7 := Aside0.mk (heap_alloc_new w6 (.cells #[.slice Ao l0_0.length co, .slice (some ⟨gn, 0, none⟩) l0_1.length cap] 51))
        have BR7 := Aside0.mk (blk_alloc BR6.out (.cells #[.slice Ao l0_0.length co, .slice (some ⟨gn, 0, none⟩) l0_1.length cap] 51))
        have HB7 := Aside0.mk (HB6.out.alloc HB6.out.size (.cells #[.slice Ao l0_0.length co, .slice (some ⟨gn, 0, none⟩) l0_1.length cap] 51))
        have Z7 : (w6.alloc (.cells #[.slice Ao l0_0.length co, .slice (some ⟨gn, 0, none⟩) l0_1.length cap] 51)).heap.size = w6.heap.size + 1 := by simp
        have HY57 := Aside0.mk (HY56.out.alloc HY56.out.size (.cells #[.slice Ao l0_0.length co, .slice (some ⟨gn, 0, none⟩) l0_1.length cap] 51))
        generalize w6.alloc (.cells #[.slice Ao l0_0.length co, .slice (some ⟨gn, 0, none⟩) l0_1.length cap] 51) = w7 at *
        have hgr : w6.heap.size ≠ gn := by omega
        have hwr : w.heap.size + 1 ≠ gn := by have := blk_lt BR4.out; have := Z5.out; omega
        generalize w6.heap.size = gr at *
        have g0 : w7.cell? ⟨gr, 0, none⟩ = some (.slice Ao l0_0.length co) := blk_cell G7.out 0
        have g1 : w7.cell? ⟨gr, 1, none⟩ = some (.slice (some ⟨gn, 0, none⟩) l0_1.length cap) := blk_cell G7.out 1
        go_wp2_with fail
        refine (rnode.calls k gr gn cap l0_1.length Ao co l0_0 l0_1 ((l0_1.length : Int) - 1) none 0 [] re ns' w5.heap.size w7 rfl G7.out O7.out N7.out (Kd.F_nil _ _ _) (Nat.le_refl _) HRE.out).mono ?_
        rintro e w8 ⟨v8, rfl, he8, hn8, hk8, hy8⟩
        have hw5 : w.heap.size ≤ w5.heap.size := HB5.out.size
        have HB8 := Aside0.mk (HB7.out.trans (hy8.2 w.heap.size (by omega)))
        have BR8 := Aside0.mk (blk_kept BR7.out hk8 hwr)
        have G8 := Aside0.mk (blk_kept G7.out hk8 hgr)
        have N8 := Aside0.mk hn8
        have O8 := Aside0.mk (Kd.R_kept (Kd.R_below (Kd.R_mono (Kd.R_bound R5.out) (fun k hk => (show k ≠ gn by have := hk.2.2.1; omega))) HY57.out) hk8 (fun _ h => h))
        have HE8 := Aside0.mk he8
        have HG8 := Aside0.mk (HG.out.below HG.out.lt (HB8.out.mono (Nat.le_of_lt HG.out.lt) |> fun h => HB8.out))
        clear he8 hn8 hk8 hy8 BR7 G7 N7 O7
        rcases re with _ | ⟨ea, ec⟩
        · obtain rfl : v8 = .nilIface := HE8.out
          have h := H.out
          simp only [Option.some.injEq, Prod.mk.injEq] at h
          obtain ⟨rfl, rfl, rfl, rfl⟩ := h
          clear H
          go_wp2_with fail
          refine (Err.told_nil w8).mono ?_
          rintro e w9 ⟨rfl, hb9⟩
          have BR9 := Aside0.mk (blk_below BR8.out hb9)
          have G9 := Aside0.mk (blk_below G8.out hb9)
          have N9 := Aside0.mk (Kd.R_below N8.out hb9)
          have O9 := Aside0.mk (Kd.R_below O8.out hb9)
          have HB9 := Aside0.mk (HB8.out.trans (hb9.mono HB8.out.size))
          have g0 : w9.cell? ⟨gr, 0, none⟩ = some (.slice Ao l0_0.length co) := blk_cell G9.out 0
          have g1 : w9.cell? ⟨gr, 1, none⟩ = some (.slice (some ⟨gn, 0, none⟩) l0_1.length cap) := blk_cell G9.out 1
          have r0 : w9.cell? ⟨w.heap.size + 1, 0, none⟩ = some (.slice none 0 0) := blk_cell BR9.out 0
          have r1 : w9.cell? ⟨w.heap.size + 1, 1, none⟩ = some (.slice none 0 0) := blk_cell BR9.out 1
          have f0 : w9.frozen? ⟨w.heap.size + 1, 0, none⟩ = false := blk_frozen BR9.out 0
          have f1 : w9.frozen? ⟨w.heap.size + 1, 1, none⟩ = false := blk_frozen BR9.out 1
          have hgr2 : gr ≠ w.heap.size + 1 := by have := blk_lt BR4.out; have := Z5.out; have := Z6.out; omega
          clear hb9
          have hlw4 := blk_lt BR4.out
          have O10 := Aside0.mk (Kd.R_lower (Kd.R_mono (Kd.R_bound O9.out) (fun k hk => (show k ≠ w.heap.size + 1 by have := hk.2.1; omega))) (show w.heap.size ≤ w4.heap.size by omega))
          have N10 := Aside0.mk (Kd.R_lower (Kd.R_mono (Kd.R_bound N9.out) (fun k hk => (show k ≠ w.heap.size + 1 by have := hk.2.1; have := Z5.out; omega))) hw5)
          have O11 := Aside0.mk (Kd.R_mono (Kd.R_far (p := ⟨w.heap.size + 1, 1, none⟩) (Kd.R_far (p := ⟨w.heap.size + 1, 0, none⟩) O10.out (fun _ h => h) (.slice Ao l0_0.length co)) (fun _ h => h) (.slice (some ⟨gn, 0, none⟩) l0_1.length cap)) (fun _ _ => trivial : ∀ k_, _ → (fun _ => True) k_))
          have N11 := Aside0.mk (Kd.R_mono (Kd.R_far (p := ⟨w.heap.size + 1, 1, none⟩) (Kd.R_far (p := ⟨w.heap.size + 1, 0, none⟩) N10.out (fun _ h => h) (.slice Ao l0_0.length co)) (fun _ h => h) (.slice (some ⟨gn, 0, none⟩) l0_1.length cap)) (fun _ _ => trivial : ∀ k_, _ → (fun _ => True) k_))
          have HB11 := Aside0.mk ((HB9.out.setCell (p := ⟨w.heap.size + 1, 0, none⟩) (by show w.heap.size ≤ w.heap.size + 1; omega) (.slice Ao l0_0.length co)).setCell (p := ⟨w.heap.size + 1, 1, none⟩) (by show w.heap.size ≤ w.heap.size + 1; omega) (.slice (some ⟨gn, 0, none⟩) l0_1.length cap))
          have BR11 := Aside0.mk (blk_set (blk_set BR9.out 0 (.slice Ao l0_0.length co)) 1 (.slice (some ⟨gn, 0, none⟩) l0_1.length cap))
          clear O9 N9 O10 N10 O8 N8 G8 BR8 hlw4
          go_wp2_with fail
          go_region
          all_goals go_wp2
          all_goals refine bodyPost_ret (results_ctt rfl _ _ (w.heap.size + 1) 25 #[.slice Ao l0_0.length co, .slice (some ⟨gn, 0, none⟩) l0_1.length cap] (0, 0) _ rfl BR11.out Tryd.underlying25 rfl (by kernel_rfl)) rfl ?_
          all_goals exact ⟨_, _, rfl, Kd.R_drew O11.out, Kd.R_drew N11.out, below_drew HB11.out⟩
        · obtain ⟨ge, hge, rfl, hbe⟩ : ∃ ge, w7.heap.size ≤ ge ∧ v8 = .iface 61 (.pointer (some ⟨ge, 0, none⟩)) ∧ w8.heap[ge]? = some (.cells #[.int .i64 ea, .iface 27 (.int .i64 ec)] 66 (0, 0)) := HE8.out
          have h := H.out
          by_cases hec : ec = 0
          · simp only [if_pos hec] at h
            cases h
          · simp only [if_neg hec, Option.some.injEq, Prod.mk.injEq] at h
            obtain ⟨rfl, rfl, rfl, rfl⟩ := h
            have b1 : (ec == 0) = false := beq_eq_false_iff_ne.mpr hec
            have b2 : (ec != 0) = true := by rw [bne_iff_ne]; exact hec
            clear H hec
            go_wp2_with fail
            refine (Err.told_fault ge ea ec w8 HG8.out (blk_cell hbe 0) (blk_cell hbe 1)).mono ?_
            rintro e w9 ⟨rfl, hb9⟩
            have BR9 := Aside0.mk (blk_below BR8.out hb9)
            have HB9 := Aside0.mk (HB8.out.trans (hb9.mono HB8.out.size))
            have r0 : w9.cell? ⟨w.heap.size + 1, 0, none⟩ = some (.slice none 0 0) := blk_cell BR9.out 0
            have r1 : w9.cell? ⟨w.heap.size + 1, 1, none⟩ = some (.slice none 0 0) := blk_cell BR9.out 1
            have f0 : w9.frozen? ⟨w.heap.size + 1, 0, none⟩ = false := blk_frozen BR9.out 0
            have f1 : w9.frozen? ⟨w.heap.size + 1, 1, none⟩ = false := blk_frozen BR9.out 1
            clear hb9
            go_wp2_with fail
            refine bodyPost_ret (results_ctt rfl _ _ (w.heap.size + 1) 25 #[.slice none 0 0, .slice none 0 0] (0, 0) _ rfl (blk_set (blk_set BR9.out 0 (.slice none 0 0)) 1 (.slice none 0 0)) Tryd.underlying25 rfl (by kernel_rfl)) rfl ?_
            exact ⟨_, _, rfl, Kd.R_nil _ _ _ _ _, Kd.R_nil _ _ _ _ _, (HB9.out.setCell (by show w.heap.size ≤ w.heap.size + 1; omega) _).setCell (by show w.heap.size ≤ w.heap.size + 1; omega) _⟩
      · rw [ht] at h
        simp only [if_true, Option.some.injEq, Prod.mk.injEq] at h
        obtain ⟨rfl, rfl, rfl, rfl⟩ := h
        have HT := Aside0.mk ht
        clear ht
        go_enter Tryd.func8, Tryd.ntmps8
        go_wp2_with fail
        generalize hW2 : ((w.alloc (.cells #[.slice A0_0 l0_0.length c0_0, .slice (some ad) l0_1.length c0_1] 25)).alloc (.cells #[.slice none 0 0, .slice none 0 0] 25)) = w2 at *
        clear hW2
        refine (tree_May.calls k A0_0 c0_0 l0_0 (some ad) c0_1 l0_1 true w2 (Kd.C_below HC0.out P2.out.1) HL0.out (Kd.C_below HC1.out P2.out.1) HL1.out HM.out).mono ?_
        rintro e w3 ⟨rfl, hb3⟩
        have BR := Aside0.mk (blk_below P2.out.2.2.1 hb3)
        have BP := Aside0.mk (blk_below P2.out.2.1 hb3)
        have HB3 := Aside0.mk (P2.out.1.trans (hb3.mono P2.out.1.size))
        have p0 : w3.cell? ⟨w.heap.size, 0, none⟩ = some (.slice A0_0 l0_0.length c0_0) := blk_cell BP.out 0
        clear hb3
        go_wp2_with fail
        refine (twice_calls A0_0 c0_0 l0_0 w3 (Kd.C_below HC0.out HB3.out) h4 HSZ.out).mono ?_
        rintro e w4 ⟨rfl, hb4⟩
        rw [HT.out]
        have HB4 := Aside0.mk (HB3.out.trans (hb4.mono HB3.out.size))
        have BR4 := Aside0.mk (blk_below BR.out hb4)
        have r0 : w4.cell? ⟨w.heap.size + 1, 0, none⟩ = some (.slice none 0 0) := blk_cell BR4.out 0
        have r1 : w4.cell? ⟨w.heap.size + 1, 1, none⟩ = some (.slice none 0 0) := blk_cell BR4.out 1
        have f0 : w4.frozen? ⟨w.heap.size + 1, 0, none⟩ = false := blk_frozen BR4.out 0
        have f1 : w4.frozen? ⟨w.heap.size + 1, 1, none⟩ = false := blk_frozen BR4.out 1
        clear hb4
        go_wp2_with fail
        refine bodyPost_ret (results_ctt rfl _ _ (w.heap.size + 1) 25 #[.slice none 0 0, .slice none 0 0] (0, 0) _ rfl (blk_set (blk_set BR4.out 0 (.slice none 0 0)) 1 (.slice none 0 0)) Tryd.underlying25 rfl (by kernel_rfl)) rfl ?_
        exact ⟨_, _, rfl, Kd.R_nil _ _ _ _ _, Kd.R_nil _ _ _ _ _, (HB4.out.setCell (by show w.heap.size ≤ w.heap.size + 1; omega) _).setCell (by show w.heap.size ≤ w.heap.size + 1; omega) _⟩
    · rw [if_neg hc] at h
      cases h
end Go.Proofs.YtfcjpkkglffnmaaDoor.H

namespace Go.Proofs.YtfcjpkkglffnmaaDoor.H
open Go.RowKit Go.Proofs.YtfcjpkkglffnmaaDoorW.PrintWords Go.Proofs.YtfcjpkkglffnmaaDoorW.PrintLast Go.Proofs.YtfcjpkkglffnmaaDoorW.PrintMore
attribute [local go_sem] max2_int min2_int max_two min_two max_three min_three max_four min_four
set_option linter.unusedVariables false
set_option linter.unusedSimpArgs false
def bndOf (kind : Int) (i : Nat) : Int := match i with | 0 => (bindsOf kind).1 | 1 => (bindsOf kind).2.1 | _ => (bindsOf kind).2.2
theorem bndOf_le (kind : Int) (i : Nat) : 0 ≤ bndOf kind i ∧ bndOf kind i ≤ 2 := by
  unfold bndOf bindsOf
  split <;> (repeat' split) <;> simp
theorem idx_at (kind : Int) (j : Nat) (hj : j < 3) (w : World) : (Instr.index 82 (.agg #[.int .i64 (bindsOf kind).1, .int .i64 (bindsOf kind).2.1, .int .i64 (bindsOf kind).2.2]) (.int .i64 j)).run Tryd.prog w = .ok (.int .i64 (bndOf kind j)) w := by
  rcases (show j = 0 ∨ j = 1 ∨ j = 2 by omega) with rfl | rfl | rfl
  · exact idx_0 _ _ _ w
  · exact idx_1 _ _ _ w
  · exact idx_2 _ _ _ w
def goW (g : Int → Int → Option Bool) (x : S34) (names : Int) : List Int → Nat → Option Bool
  | [], _ => some true
  | c :: cs, i => (g c (names + bndOf x.f0 i)).bind fun b => if b = true then goW g x names cs (i + 1) else some false
def within.f : Nat → Int → List S34 → Int → Int → Option Bool
  | 0, _, _, _, _ => none
  | k + 1, no, l, a, names => if 0 ≤ a ∧ a < (l.length : Int) ∧ 0 ≤ names ∧ names ≤ 100000 then
      (let x := rd_T34 l a
      (tree_Numbered.f x.f0).bind fun nb => if nb = true ∧ (x.f4 < 0 ∨ x.f4 ≥ (if x.f0 = 0 then names else no)) then some false else goW (within.f k no l) x names (kidsOf x) 0) else none
set_option maxRecDepth 100000 in
set_option maxHeartbeats 8000000 in
theorem within.calls (k : Nat) : ∀ (gp : Nat) (Ao : Option Addr) (no co : Nat) (A0 : Option Addr) (c0 : Nat) (l0 : List S34) (a names : Int) (r : Bool) (w : World) (hp : w.heap[gp]? = some (.cells #[.slice Ao no co, .slice A0 l0.length c0] 25 (0, 0))) (hr0 : Kd.C k34 w A0 l0.length l0) (h : within.f k (no : Int) l0 a names = some r),
    Calls Tryd.prog 24 #[.pointer (some ⟨gp, 0, none⟩), .int .i64 a, .int .i64 names] w fun e w' => e = .returned (.bool r) ∧ Below w.heap.size w w' := by
  induction k with
  | zero => intro gp Ao no co A0 c0 l0 a names r w hp hr0 h; exact absurd h (by simp [within.f])
  | succ k ih =>
    intro gp Ao no co A0 c0 l0 a names r w hp hr0 h
    rw [within.f] at h
    by_cases h0 : 0 ≤ a ∧ a < (l0.length : Int) ∧ 0 ≤ names ∧ names ≤ 100000
    · rw [if_pos h0] at h
      obtain ⟨ha, hb, hn0, hn1⟩ := h0
      obtain ⟨ad, e157, hx0, hx1, hx2, hx3, hx4, hx5, hx6, hx7, hx8, hx9⟩ := at_T34 hr0 a ha hb
      cases e157
      dsimp only at h
      replace h := Option.bind_eq_some_iff.mp h
      obtain ⟨nb, hnb, h⟩ := h
      have p0 : w.cell? ⟨gp, 0, none⟩ = some (.slice Ao no co) := blk_cell hp 0
      have p1 : w.cell? ⟨gp, 1, none⟩ = some (.slice (some ad) l0.length c0) := blk_cell hp 1
      have HP := Aside0.mk hp
      have HC := Aside0.mk hr0
      have HNB := Aside0.mk hnb
      have H := Aside0.mk h
      have IH := Aside0.mk ih
      have hpl := blk_lt hp
      clear hp hr0 hnb h ih
      generalize hX : rd_T34 l0 a = x at *
      clear hX
      have hpne : gp ≠ w.heap.size := Nat.ne_of_lt hpl
      by_cases k0 : x.f0 = 0
      · have hnb := HNB.out
        rw [k0] at hnb
        obtain rfl : true = nb := Option.some.inj hnb
        have HNB := Aside0.mk hnb
        have h := H.out
        rw [if_pos k0] at h
        have hk0 : kidsOf x = [] := by unfold kidsOf; rw [k0]; rfl
        have hxx : ∃ kd, x.f0 = kd ∧ kd = 0 := ⟨_, rfl, k0⟩
        clear hnb H
        rw [k0] at hx0
        by_cases c1 : x.f4 < 0
        · rw [if_pos ⟨rfl, .inl c1⟩] at h
          obtain rfl := Option.some.inj h
          have b1 : decide (x.f4 < 0) = true := decide_eq_true c1
          clear h c1 k0 hk0 hxx
          go_enter Tryd.func24, Tryd.ntmps24
          go_wp2_with fail
          refine (tree_Numbered.calls 0 true _ HNB.out).mono ?_
          rintro e w2 ⟨rfl, ⟨nd, rfl⟩⟩
          go_wp2_with fail
          go_ret
          exact ⟨rfl, pw_below_drewN ((Below.refl _ _).alloc (Nat.le_refl _) _) _⟩
        · by_cases c2 : x.f4 ≥ names
          · rw [if_pos ⟨rfl, .inr c2⟩] at h
            obtain rfl := Option.some.inj h
            have b1 : decide (x.f4 < 0) = false := decide_eq_false c1
            have b2 : decide (names ≤ x.f4) = true := decide_eq_true c2
            clear h c1 c2 k0 hk0 hxx
            go_enter Tryd.func24, Tryd.ntmps24
            go_wp2_with fail
            refine (tree_Numbered.calls 0 true _ HNB.out).mono ?_
            rintro e w2 ⟨rfl, ⟨nd, rfl⟩⟩
            go_wp2_with fail
            go_ret
            exact ⟨rfl, pw_below_drewN ((Below.refl _ _).alloc (Nat.le_refl _) _) _⟩
          · rw [if_neg (fun hh => hh.2.elim c1 c2), hk0, goW] at h
            obtain rfl := Option.some.inj h
            have b1 : decide (x.f4 < 0) = false := decide_eq_false c1
            have b2 : decide (names ≤ x.f4) = false := decide_eq_false c2
            clear h c1 c2 k0 hk0 hxx
            go_enter Tryd.func24, Tryd.ntmps24
            go_wp2_with fail
            refine (tree_Numbered.calls 0 true _ HNB.out).mono ?_
            rintro e w2 ⟨rfl, ⟨nd, rfl⟩⟩
            go_wp2_with fail
            refine (kids_calls w.heap.size 0 0 _ (by simp)).mono ?_
            rintro e w5 ⟨rfl, hb5, _⟩
            rw [show kidsN 0 = 0 from rfl]
            have HB5 := Aside0.mk hb5
            clear hb5
            go_wp2_with fail
            refine wp_loop_rounds 1 ?_
            rw [rounds_succ]
            go_wp2_with fail
            go_ret
            exact ⟨rfl, (pw_below_drewN ((Below.refl _ _).alloc (Nat.le_refl _) _) _).trans (HB5.out.mono (by simp))⟩
      · have h := H.out
        rw [if_neg k0] at h
        have q0 : (x.f0 == 0) = false := beq_eq_false_iff_ne.mpr k0
        clear H k0
        cases nb
        · rw [if_neg (fun hh => by simp at hh)] at h
          have H2 := Aside0.mk h
          clear h
          go_enter Tryd.func24, Tryd.ntmps24
          go_wp2_with fail
          refine (tree_Numbered.calls x.f0 false _ HNB.out).mono ?_
          rintro e w2 ⟨rfl, ⟨nd, rfl⟩⟩
          go_wp2_with fail
          have B2 : ((w.alloc (.cells #[.int .i64 x.f0, .int .i64 x.f1, .int .i64 x.f2, .int .i64 x.f3, .int .i64 x.f4, .string x.f5, .string x.f6, .string x.f7, .string x.f8, .int .i64 x.f9] 34)).drewN nd).heap[w.heap.size]? = some (.cells #[.int .i64 x.f0, .int .i64 x.f1, .int .i64 x.f2, .int .i64 x.f3, .int .i64 x.f4, .string x.f5, .string x.f6, .string x.f7, .string x.f8, .int .i64 x.f9] 34 (0, 0)) := heap_alloc_new w _
          have HB2 : Below w.heap.size w ((w.alloc (.cells #[.int .i64 x.f0, .int .i64 x.f1, .int .i64 x.f2, .int .i64 x.f3, .int .i64 x.f4, .string x.f5, .string x.f6, .string x.f7, .string x.f8, .int .i64 x.f9] 34)).drewN nd) := pw_below_drewN ((Below.refl _ _).alloc (Nat.le_refl _) _) _
          generalize (w.alloc (.cells #[.int .i64 x.f0, .int .i64 x.f1, .int .i64 x.f2, .int .i64 x.f3, .int .i64 x.f4, .string x.f5, .string x.f6, .string x.f7, .string x.f8, .int .i64 x.f9] 34)).drewN nd = w2 at *
          have d0 : w2.cell? ⟨w.heap.size, 0, none⟩ = some (.int .i64 x.f0) := blk_cell B2 0
          refine (kids_calls w.heap.size 0 x.f0 w2 d0).mono ?_
          rintro e w3 ⟨rfl, hb3, hp3⟩
          have hqw : w.heap.size < w2.heap.size := blk_lt B2
          obtain ⟨q, hq⟩ : ∃ q, w2.heap.size = q := ⟨_, rfl⟩
          have B3 := Aside0.mk (blk_below B2 hb3)
          have HB3 := Aside0.mk (HB2.trans (hb3.mono HB2.size))
          rw [hq] at hp3 hqw ⊢
          have P3 := Aside0.mk hp3
          have hn3 := kidsN_le x.f0
          have hkl := kidsOf_len x
          have HKL := Aside0.mk hkl
          generalize hN : kidsN x.f0 = n3 at *
          have hl2 := fieldPtrs_len w.heap.size (0 + 1) n3
          have HL2 := Aside0.mk hl2
          clear hb3 hp3 d0 hl2 hN hkl hq B2 HB2 hx0 hx1 hx2 hx3 hx4 hx5 hx6 hx7 hx8 hx9 q0 p0 p1
          go_wp2_with fail
          go_loopw [43] (fun v43 wr => ∃ (j : Nat), v43 = .int .i64 j ∧ j ≤ n3 ∧ Aside0 (goW (within.f k (no : Int) l0) x names ((kidsOf x).drop j) j = some r) ∧ Aside0 (wr.heap[w.heap.size]? = some (.cells #[.int .i64 x.f0, .int .i64 x.f1, .int .i64 x.f2, .int .i64 x.f3, .int .i64 x.f4, .string x.f5, .string x.f6, .string x.f7, .string x.f8, .int .i64 x.f9] 34 (0, 0))) ∧ Aside0 (0 < n3 → wr.heap[q]? = some (.cells (fieldPtrs w.heap.size (0 + 1) n3).toArray 74 (0, 0))) ∧ Aside0 (Below w.heap.size w wr)) (fun v43 _ => n3 - (intOf v43).toNat)
          case atStart => exact ⟨0, rfl, Nat.zero_le _, H2, B3, P3, HB3⟩
          case round =>
            obtain ⟨j, rfl, hj, HG, BR, PR, HBR⟩ := hrel
            clear H2 B3 P3 HB3
            by_cases hltj : j < n3
            · have hpA : ptrOf q n3 = some ⟨q, 0, none⟩ := ptrOf_some (by omega)
              rw [hpA]
              have hlen : (kidsOf x).length = n3 := HKL.out
              obtain ⟨c5, hc5⟩ : ∃ c5, (kidsOf x)[j]? = some c5 := ⟨_, List.getElem?_eq_getElem (by omega)⟩
              have hdrop : (kidsOf x).drop j = c5 :: (kidsOf x).drop (j + 1) := (hr_drop hc5).symm
              have S0 : wr.cell? ⟨w.heap.size, 1 + j, none⟩ = some (.int .i64 c5) ∧ wr.cell? ⟨w.heap.size, 0, none⟩ = some (.int .i64 x.f0) := ⟨node_cells x BR.out j c5 hc5, blk_cell BR.out 0⟩
              have d2 : wr.cell? ⟨q, j, none⟩ = some (.pointer (some ⟨w.heap.size, 1 + j, none⟩)) := by
                rw [blk_cell (PR.out (by omega)) j, List.getElem?_toArray]
                exact fieldPtrs_get _ _ _ _ hltj
              have HG' := HG.out
              rw [hdrop, goW] at HG'
              replace HG' := Option.bind_eq_some_iff.mp HG'
              obtain ⟨rb, hrb, HG'⟩ := HG'
              have HRB := Aside0.mk hrb
              have HG2 := Aside0.mk HG'
              have hjlt : j < 3 := by omega
              have hix := fun W => idx_at x.f0 j hjlt W
              obtain ⟨hbl0, hbl1⟩ := bndOf_le x.f0 j
              have HW := Aside0.mk (show IntKind.i64.wrap (names + bndOf x.f0 j) = names + bndOf x.f0 j from IntWalk.i64_in _ (by omega))
              have hwz : w.heap.size < wr.heap.size := blk_lt BR.out
              have d1 := S0.1
              have d3 := S0.2
              clear hdrop hlen HG hc5 hrb HG' hpA
              go_wp2_with fail
              go_region_held3 (fun w' => w'.cell? ⟨w.heap.size, 1 + j, none⟩ = some (.int .i64 c5) ∧ w'.cell? ⟨w.heap.size, 0, none⟩ = some (.int .i64 x.f0)) (first | go_keep | exact S0 | exact S5.out | exact S6.out)
                ((first
                  | (go_at_call 40; refine (binds_calls x.f0 _).mono ?_; rintro e w5 ⟨rfl, hb5⟩; have hb5 : Below wr.heap.size wr w5 := (below_drew (Below.refl _ _)).trans hb5; have S5 := Aside0.mk (show w5.cell? ⟨w.heap.size, 1 + j, none⟩ = some (.int .i64 c5) ∧ w5.cell? ⟨w.heap.size, 0, none⟩ = some (.int .i64 x.f0) from ⟨pw_cell_below hb5 S0.1, pw_cell_below hb5 S0.2⟩); have HB5 := Aside0.mk hb5; clear hb5)
                  | (go_at_call 24; rw [HW.out]; (with_reducible refine (IH.out gp Ao no co (some ad) c0 l0 c5 (names + bndOf x.f0 j) rb w5 ?p0 ?p1 HRB.out).mono ?_); (case p0 => exact blk_below HP.out (HBR.out.trans (HB5.out.mono HBR.out.size))); (case p1 => exact Kd.C_below HC.out (HBR.out.trans (HB5.out.mono HBR.out.size))); rintro e w6 ⟨rfl, hb6⟩; have S6 := Aside0.mk (show w6.cell? ⟨w.heap.size, 1 + j, none⟩ = some (.int .i64 c5) ∧ w6.cell? ⟨w.heap.size, 0, none⟩ = some (.int .i64 x.f0) from ⟨pw_cell_below hb6 S5.out.1, pw_cell_below hb6 S5.out.2⟩); have HB6 := Aside0.mk (HB5.out.trans (hb6.mono HB5.out.size)); clear hb6)))
              cases rb
              · have hg2 := HG2.out
                simp only [Bool.false_eq_true, if_false, Option.some.injEq] at hg2
                subst hg2
                clear HG2
                go_wp2_with fail
                go_ret
                exact ⟨rfl, HBR.out.trans (HB6.out.mono HBR.out.size)⟩
              · have hg2 := HG2.out
                simp only [if_true] at hg2
                have HG3 := Aside0.mk hg2
                clear hg2 HG2
                go_wp2_with fail
                go_roundw
                case rel => exact ⟨j + 1, by go_num, by omega, HG3, ⟨blk_below BR.out HB6.out⟩, ⟨fun h => blk_below (PR.out h) HB6.out⟩, ⟨HBR.out.trans (HB6.out.mono HBR.out.size)⟩⟩
                case measure => simp [intOf]; omega
            · have hin : j = n3 := by omega
              have HG' := HG.out
              rw [List.drop_eq_nil_of_le (by rw [HKL.out]; omega), goW] at HG'
              obtain rfl := Option.some.inj HG'
              clear HG hin
              go_wp2
              go_ret
              exact ⟨rfl, HBR.out⟩
        · by_cases c1 : x.f4 < 0
          · rw [if_pos ⟨rfl, .inl c1⟩] at h
            obtain rfl := Option.some.inj h
            have b1 : decide (x.f4 < 0) = true := decide_eq_true c1
            clear h c1
            go_enter Tryd.func24, Tryd.ntmps24
            go_wp2_with fail
            refine (tree_Numbered.calls x.f0 true _ HNB.out).mono ?_
            rintro e w2 ⟨rfl, ⟨nd, rfl⟩⟩
            go_wp2_with fail
            go_ret
            exact ⟨rfl, pw_below_drewN ((Below.refl _ _).alloc (Nat.le_refl _) _) _⟩
          · by_cases c2 : x.f4 ≥ (no : Int)
            · rw [if_pos ⟨rfl, .inr c2⟩] at h
              obtain rfl := Option.some.inj h
              have b1 : decide (x.f4 < 0) = false := decide_eq_false c1
              have b2 : decide ((no : Int) ≤ x.f4) = true := decide_eq_true c2
              clear h c1 c2
              go_enter Tryd.func24, Tryd.ntmps24
              go_wp2_with fail
              refine (tree_Numbered.calls x.f0 true _ HNB.out).mono ?_
              rintro e w2 ⟨rfl, ⟨nd, rfl⟩⟩
              go_wp2_with fail
              go_ret
              exact ⟨rfl, pw_below_drewN ((Below.refl _ _).alloc (Nat.le_refl _) _) _⟩
            · rw [if_neg (fun hh => hh.2.elim c1 c2)] at h
              have H2 := Aside0.mk h
              have b1 : decide (x.f4 < 0) = false := decide_eq_false c1
              have b2 : decide ((no : Int) ≤ x.f4) = false := decide_eq_false c2
              clear h c1 c2
              go_enter Tryd.func24, Tryd.ntmps24
              go_wp2_with fail
              refine (tree_Numbered.calls x.f0 true _ HNB.out).mono ?_
              rintro e w2 ⟨rfl, ⟨nd, rfl⟩⟩
              go_wp2_with fail
              have B2 : ((w.alloc (.cells #[.int .i64 x.f0, .int .i64 x.f1, .int .i64 x.f2, .int .i64 x.f3, .int .i64 x.f4, .string x.f5, .string x.f6, .string x.f7, .string x.f8, .int .i64 x.f9] 34)).drewN nd).heap[w.heap.size]? = some (.cells #[.int .i64 x.f0, .int .i64 x.f1, .int .i64 x.f2, .int .i64 x.f3, .int .i64 x.f4, .string x.f5, .string x.f6, .string x.f7, .string x.f8, .int .i64 x.f9] 34 (0, 0)) := heap_alloc_new w _
              have HB2 : Below w.heap.size w ((w.alloc (.cells #[.int .i64 x.f0, .int .i64 x.f1, .int .i64 x.f2, .int .i64 x.f3, .int .i64 x.f4, .string x.f5, .string x.f6, .string x.f7, .string x.f8, .int .i64 x.f9] 34)).drewN nd) := pw_below_drewN ((Below.refl _ _).alloc (Nat.le_refl _) _) _
              generalize (w.alloc (.cells #[.int .i64 x.f0, .int .i64 x.f1, .int .i64 x.f2, .int .i64 x.f3, .int .i64 x.f4, .string x.f5, .string x.f6, .string x.f7, .string x.f8, .int .i64 x.f9] 34)).drewN nd = w2 at *
              have d0 : w2.cell? ⟨w.heap.size, 0, none⟩ = some (.int .i64 x.f0) := blk_cell B2 0
              refine (kids_calls w.heap.size 0 x.f0 w2 d0).mono ?_
              rintro e w3 ⟨rfl, hb3, hp3⟩
              have hqw : w.heap.size < w2.heap.size := blk_lt B2
              obtain ⟨q, hq⟩ : ∃ q, w2.heap.size = q := ⟨_, rfl⟩
              have B3 := Aside0.mk (blk_below B2 hb3)
              have HB3 := Aside0.mk (HB2.trans (hb3.mono HB2.size))
              rw [hq] at hp3 hqw ⊢
              have P3 := Aside0.mk hp3
              have hn3 := kidsN_le x.f0
              have hkl := kidsOf_len x
              have HKL := Aside0.mk hkl
              generalize hN : kidsN x.f0 = n3 at *
              have hl2 := fieldPtrs_len w.heap.size (0 + 1) n3
              have HL2 := Aside0.mk hl2
              clear hb3 hp3 d0 hl2 hN hkl hq B2 HB2 hx0 hx1 hx2 hx3 hx4 hx5 hx6 hx7 hx8 hx9 q0 p0 p1
              go_wp2_with fail
              go_loopw [43] (fun v43 wr => ∃ (j : Nat), v43 = .int .i64 j ∧ j ≤ n3 ∧ Aside0 (goW (within.f k (no : Int) l0) x names ((kidsOf x).drop j) j = some r) ∧ Aside0 (wr.heap[w.heap.size]? = some (.cells #[.int .i64 x.f0, .int .i64 x.f1, .int .i64 x.f2, .int .i64 x.f3, .int .i64 x.f4, .string x.f5, .string x.f6, .string x.f7, .string x.f8, .int .i64 x.f9] 34 (0, 0))) ∧ Aside0 (0 < n3 → wr.heap[q]? = some (.cells (fieldPtrs w.heap.size (0 + 1) n3).toArray 74 (0, 0))) ∧ Aside0 (Below w.heap.size w wr)) (fun v43 _ => n3 - (intOf v43).toNat)
              case atStart => exact ⟨0, rfl, Nat.zero_le _, H2, B3, P3, HB3⟩
              case round =>
                obtain ⟨j, rfl, hj, HG, BR, PR, HBR⟩ := hrel
                clear H2 B3 P3 HB3
                by_cases hltj : j < n3
                · have hpA : ptrOf q n3 = some ⟨q, 0, none⟩ := ptrOf_some (by omega)
                  rw [hpA]
                  have hlen : (kidsOf x).length = n3 := HKL.out
                  obtain ⟨c5, hc5⟩ : ∃ c5, (kidsOf x)[j]? = some c5 := ⟨_, List.getElem?_eq_getElem (by omega)⟩
                  have hdrop : (kidsOf x).drop j = c5 :: (kidsOf x).drop (j + 1) := (hr_drop hc5).symm
                  have S0 : wr.cell? ⟨w.heap.size, 1 + j, none⟩ = some (.int .i64 c5) ∧ wr.cell? ⟨w.heap.size, 0, none⟩ = some (.int .i64 x.f0) := ⟨node_cells x BR.out j c5 hc5, blk_cell BR.out 0⟩
                  have d2 : wr.cell? ⟨q, j, none⟩ = some (.pointer (some ⟨w.heap.size, 1 + j, none⟩)) := by
                    rw [blk_cell (PR.out (by omega)) j, List.getElem?_toArray]
                    exact fieldPtrs_get _ _ _ _ hltj
                  have HG' := HG.out
                  rw [hdrop, goW] at HG'
                  replace HG' := Option.bind_eq_some_iff.mp HG'
                  obtain ⟨rb, hrb, HG'⟩ := HG'
                  have HRB := Aside0.mk hrb
                  have HG2 := Aside0.mk HG'
                  have hjlt : j < 3 := by omega
                  have hix := fun W => idx_at x.f0 j hjlt W
                  obtain ⟨hbl0, hbl1⟩ := bndOf_le x.f0 j
                  have HW := Aside0.mk (show IntKind.i64.wrap (names + bndOf x.f0 j) = names + bndOf x.f0 j from IntWalk.i64_in _ (by omega))
                  have hwz : w.heap.size < wr.heap.size := blk_lt BR.out
                  have d1 := S0.1
                  have d3 := S0.2
                  clear hdrop hlen HG hc5 hrb HG' hpA
                  go_wp2_with fail
                  go_region_held3 (fun w' => w'.cell? ⟨w.heap.size, 1 + j, none⟩ = some (.int .i64 c5) ∧ w'.cell? ⟨w.heap.size, 0, none⟩ = some (.int .i64 x.f0)) (first | go_keep | exact S0 | exact S5.out | exact S6.out)
                    ((first
                      | (go_at_call 40; refine (binds_calls x.f0 _).mono ?_; rintro e w5 ⟨rfl, hb5⟩; have hb5 : Below wr.heap.size wr w5 := (below_drew (Below.refl _ _)).trans hb5; have S5 := Aside0.mk (show w5.cell? ⟨w.heap.size, 1 + j, none⟩ = some (.int .i64 c5) ∧ w5.cell? ⟨w.heap.size, 0, none⟩ = some (.int .i64 x.f0) from ⟨pw_cell_below hb5 S0.1, pw_cell_below hb5 S0.2⟩); have HB5 := Aside0.mk hb5; clear hb5)
                      | (go_at_call 24; rw [HW.out]; (with_reducible refine (IH.out gp Ao no co (some ad) c0 l0 c5 (names + bndOf x.f0 j) rb w5 ?p0 ?p1 HRB.out).mono ?_); (case p0 => exact blk_below HP.out (HBR.out.trans (HB5.out.mono HBR.out.size))); (case p1 => exact Kd.C_below HC.out (HBR.out.trans (HB5.out.mono HBR.out.size))); rintro e w6 ⟨rfl, hb6⟩; have S6 := Aside0.mk (show w6.cell? ⟨w.heap.size, 1 + j, none⟩ = some (.int .i64 c5) ∧ w6.cell? ⟨w.heap.size, 0, none⟩ = some (.int .i64 x.f0) from ⟨pw_cell_below hb6 S5.out.1, pw_cell_below hb6 S5.out.2⟩); have HB6 := Aside0.mk (HB5.out.trans (hb6.mono HB5.out.size)); clear hb6)))
                  cases rb
                  · have hg2 := HG2.out
                    simp only [Bool.false_eq_true, if_false, Option.some.injEq] at hg2
                    subst hg2
                    clear HG2
                    go_wp2_with fail
                    go_ret
                    exact ⟨rfl, HBR.out.trans (HB6.out.mono HBR.out.size)⟩
                  · have hg2 := HG2.out
                    simp only [if_true] at hg2
                    have HG3 := Aside0.mk hg2
                    clear hg2 HG2
                    go_wp2_with fail
                    go_roundw
                    case rel => exact ⟨j + 1, by go_num, by omega, HG3, ⟨blk_below BR.out HB6.out⟩, ⟨fun h => blk_below (PR.out h) HB6.out⟩, ⟨HBR.out.trans (HB6.out.mono HBR.out.size)⟩⟩
                    case measure => simp [intOf]; omega
                · have hin : j = n3 := by omega
                  have HG' := HG.out
                  rw [List.drop_eq_nil_of_le (by rw [HKL.out]; omega), goW] at HG'
                  obtain rfl := Option.some.inj HG'
                  clear HG hin
                  go_wp2
                  go_ret
                  exact ⟨rfl, HBR.out⟩
    · rw [if_neg h0] at h; cases h
end Go.Proofs.YtfcjpkkglffnmaaDoor.H

namespace Go.Proofs.YtfcjpkkglffnmaaDoor.H
open Go.RowKit Go.Proofs.YtfcjpkkglffnmaaDoorW.PrintWords Go.Proofs.YtfcjpkkglffnmaaDoorW.PrintLast Go.Proofs.YtfcjpkkglffnmaaDoorW.PrintMore
attribute [local go_sem] max2_int min2_int max_two min_two max_three min_three max_four min_four
set_option linter.unusedVariables false
set_option linter.unusedSimpArgs false
def scope_May.f (k : Nat) (l0 : List (S45)) (l1 : List (S34)) : Option Bool :=
  (tree_OpsMay.f k l0).bind fun m => if m = true then (if l0.length ≤ 4 ∧ (l0.all fun o => decide (o.f0.size ≤ 1000)) = true then
    (if twiceGo [] l0 = true then some false else (tree_Shaped.f k l1 false).bind fun s => if s = true then (if l1.length ≤ 512 then within.f k (l0.length : Int) l1 ((l1.length : Int) - 1) 0 else none) else some false) else none) else some false
set_option maxRecDepth 100000 in
set_option maxHeartbeats 8000000 in
theorem scope_May.calls (k : Nat) (A0_0 : Option Addr) (c0_0 : Nat) (l0_0 : List (S45)) (A0_1 : Option Addr) (c0_1 : Nat) (l0_1 : List (S34)) (r : Bool) (w : World) (hr0_0 : Kd.C k45 w A0_0 l0_0.length l0_0) (hc0_0 : l0_0.length ≤ c0_0) (hr0_1 : Kd.C k34 w A0_1 l0_1.length l0_1) (hc0_1 : l0_1.length ≤ c0_1) (h : scope_May.f k l0_0 l0_1 = some r) :
    Calls Tryd.prog 10 #[.agg #[.slice A0_0 l0_0.length c0_0, .slice A0_1 l0_1.length c0_1]] w fun e w' => e = .returned (.bool r) ∧ Below w.heap.size w w' := by
  unfold scope_May.f at h
  replace h := Option.bind_eq_some_iff.mp h
  obtain ⟨m, hm, h⟩ := h
  have HC0 := Aside0.mk hr0_0
  have HC1 := Aside0.mk hr0_1
  have HL0 := Aside0.mk hc0_0
  have HL1 := Aside0.mk hc0_1
  have HM := Aside0.mk hm
  have hW : ∃ w2, w.alloc (.cells #[.slice A0_0 l0_0.length c0_0, .slice A0_1 l0_1.length c0_1] 25) = w2 ∧ w2.heap[w.heap.size]? = some (.cells #[.slice A0_0 l0_0.length c0_0, .slice A0_1 l0_1.length c0_1] 25 (0, 0)) ∧ Below w.heap.size w w2 := ⟨_, rfl, heap_alloc_new w _, (Below.refl _ _).alloc (Nat.le_refl _) _⟩
  obtain ⟨w2, hw2, hb2, hB2⟩ := hW
  have HW2 := Aside0.mk hw2
  have BP2 := Aside0.mk hb2
  have HB2 := Aside0.mk hB2
  have OM := Aside0.mk (tree_OpsMay.calls k A0_0 c0_0 l0_0 m w2 (Kd.C_below hr0_0 hB2) hc0_0 hm)
  clear hr0_0 hr0_1 hc0_0 hc0_1 hm hw2 hb2 hB2
  cases m with
  | false =>
    simp only [Bool.false_eq_true, if_false, Option.some.injEq] at h
    obtain rfl := h
    have HS := Aside0.mk (show w2.heap.size = w2.heap.size from rfl)
    go_enter Tryd.func10, Tryd.ntmps10
    go_wp2_with fail
    rw [HW2.out]
    refine OM.out.mono ?_
    rintro e w3 ⟨rfl, hb3⟩
    have BP3 := Aside0.mk (blk_below BP2.out hb3)
    have HB3 := Aside0.mk (HB2.out.trans (hb3.mono HB2.out.size))
    have p0 : w3.cell? ⟨w.heap.size, 0, none⟩ = some (.slice A0_0 l0_0.length c0_0) := blk_cell BP3.out 0
    have p1 : w3.cell? ⟨w.heap.size, 1, none⟩ = some (.slice A0_1 l0_1.length c0_1) := blk_cell BP3.out 1
    clear hb3
    go_wp2_with fail
    go_ret
    exact ⟨rfl, HB3.out⟩
  | true =>
    simp only [if_true] at h
    by_cases hc : l0_0.length ≤ 4 ∧ (l0_0.all fun o => decide (o.f0.size ≤ 1000)) = true
    · rw [if_pos hc] at h
      obtain ⟨h4, hall⟩ := hc
      have hsz : ∀ o ∈ l0_0, o.f0.size ≤ 1000 := fun o ho => of_decide_eq_true (List.all_eq_true.1 hall o ho)
      have HSZ := Aside0.mk hsz
      clear hall hsz
      cases ht : twiceGo [] l0_0
      · rw [ht] at h
        simp only [Bool.false_eq_true, if_false] at h
        replace h := Option.bind_eq_some_iff.mp h
        obtain ⟨sh, hsh, h⟩ := h
        have HT := Aside0.mk ht
        have HSH := Aside0.mk hsh
        clear ht hsh
        cases sh
        · simp only [Bool.false_eq_true, if_false, Option.some.injEq] at h
          obtain rfl := h
          have HS := Aside0.mk (show w2.heap.size = w2.heap.size from rfl)
          go_enter Tryd.func10, Tryd.ntmps10
          go_wp2_with fail
          rw [HW2.out]
          refine OM.out.mono ?_
          rintro e w3 ⟨rfl, hb3⟩
          have BP3 := Aside0.mk (blk_below BP2.out hb3)
          have HB3 := Aside0.mk (HB2.out.trans (hb3.mono HB2.out.size))
          have p0 : w3.cell? ⟨w.heap.size, 0, none⟩ = some (.slice A0_0 l0_0.length c0_0) := blk_cell BP3.out 0
          have p1 : w3.cell? ⟨w.heap.size, 1, none⟩ = some (.slice A0_1 l0_1.length c0_1) := blk_cell BP3.out 1
          clear hb3
          go_wp2_with fail
          refine (twice_calls A0_0 c0_0 l0_0 w3 (Kd.C_below HC0.out HB3.out) h4 HSZ.out).mono ?_
          rintro e w4 ⟨rfl, hb4⟩
          rw [HT.out]
          have BP4 := Aside0.mk (blk_below BP3.out hb4)
          have HB4 := Aside0.mk (HB3.out.trans (hb4.mono HB3.out.size))
          have p0 : w4.cell? ⟨w.heap.size, 0, none⟩ = some (.slice A0_0 l0_0.length c0_0) := blk_cell BP4.out 0
          have p1 : w4.cell? ⟨w.heap.size, 1, none⟩ = some (.slice A0_1 l0_1.length c0_1) := blk_cell BP4.out 1
          clear hb4
          go_wp2_with fail
          refine (tree_Shaped.calls k A0_1 c0_1 l0_1 false false w4 (Kd.C_below HC1.out HB4.out) HL1.out HSH.out).mono ?_
          rintro e w5 ⟨rfl, hb5⟩
          have BP5 := Aside0.mk (blk_below BP4.out hb5)
          have HB5 := Aside0.mk (HB4.out.trans (hb5.mono HB4.out.size))
          have p1 : w5.cell? ⟨w.heap.size, 1, none⟩ = some (.slice A0_1 l0_1.length c0_1) := blk_cell BP5.out 1
          clear hb5
          go_wp2_with fail
          go_ret
          exact ⟨rfl, HB5.out⟩
        · simp only [if_true] at h
          by_cases h512 : l0_1.length ≤ 512
          · rw [if_pos h512] at h
            have H := Aside0.mk h
            clear h
            have HS := Aside0.mk (show w2.heap.size = w2.heap.size from rfl)
            go_enter Tryd.func10, Tryd.ntmps10
            go_wp2_with fail
            rw [HW2.out]
            refine OM.out.mono ?_
            rintro e w3 ⟨rfl, hb3⟩
            have BP3 := Aside0.mk (blk_below BP2.out hb3)
            have HB3 := Aside0.mk (HB2.out.trans (hb3.mono HB2.out.size))
            have p0 : w3.cell? ⟨w.heap.size, 0, none⟩ = some (.slice A0_0 l0_0.length c0_0) := blk_cell BP3.out 0
            have p1 : w3.cell? ⟨w.heap.size, 1, none⟩ = some (.slice A0_1 l0_1.length c0_1) := blk_cell BP3.out 1
            clear hb3
            go_wp2_with fail
            refine (twice_calls A0_0 c0_0 l0_0 w3 (Kd.C_below HC0.out HB3.out) h4 HSZ.out).mono ?_
            rintro e w4 ⟨rfl, hb4⟩
            rw [HT.out]
            have BP4 := Aside0.mk (blk_below BP3.out hb4)
            have HB4 := Aside0.mk (HB3.out.trans (hb4.mono HB3.out.size))
            have p0 : w4.cell? ⟨w.heap.size, 0, none⟩ = some (.slice A0_0 l0_0.length c0_0) := blk_cell BP4.out 0
            have p1 : w4.cell? ⟨w.heap.size, 1, none⟩ = some (.slice A0_1 l0_1.length c0_1) := blk_cell BP4.out 1
            clear hb4
            go_wp2_with fail
            refine (tree_Shaped.calls k A0_1 c0_1 l0_1 false true w4 (Kd.C_below HC1.out HB4.out) HL1.out HSH.out).mono ?_
            rintro e w5 ⟨rfl, hb5⟩
            have BP5 := Aside0.mk (blk_below BP4.out hb5)
            have HB5 := Aside0.mk (HB4.out.trans (hb5.mono HB4.out.size))
            have p1 : w5.cell? ⟨w.heap.size, 1, none⟩ = some (.slice A0_1 l0_1.length c0_1) := blk_cell BP5.out 1
            clear hb5
            go_wp2_with fail
            refine (within.calls k w.heap.size A0_0 l0_0.length c0_0 A0_1 c0_1 l0_1 ((l0_1.length : Int) - 1) 0 r w5 BP5.out (Kd.C_below HC1.out HB5.out) H.out).mono ?_
            rintro e w6 ⟨rfl, hb6⟩
            have HB6 := Aside0.mk (HB5.out.trans (hb6.mono HB5.out.size))
            clear hb6
            go_wp2_with fail
            go_ret
            exact ⟨rfl, HB6.out⟩
          · rw [if_neg h512] at h
            cases h
      · rw [ht] at h
        simp only [if_true, Option.some.injEq] at h
        obtain rfl := h
        have HT := Aside0.mk ht
        clear ht
        have HS := Aside0.mk (show w2.heap.size = w2.heap.size from rfl)
        go_enter Tryd.func10, Tryd.ntmps10
        go_wp2_with fail
        rw [HW2.out]
        refine OM.out.mono ?_
        rintro e w3 ⟨rfl, hb3⟩
        have BP3 := Aside0.mk (blk_below BP2.out hb3)
        have HB3 := Aside0.mk (HB2.out.trans (hb3.mono HB2.out.size))
        have p0 : w3.cell? ⟨w.heap.size, 0, none⟩ = some (.slice A0_0 l0_0.length c0_0) := blk_cell BP3.out 0
        have p1 : w3.cell? ⟨w.heap.size, 1, none⟩ = some (.slice A0_1 l0_1.length c0_1) := blk_cell BP3.out 1
        clear hb3
        go_wp2_with fail
        refine (twice_calls A0_0 c0_0 l0_0 w3 (Kd.C_below HC0.out HB3.out) h4 HSZ.out).mono ?_
        rintro e w4 ⟨rfl, hb4⟩
        rw [HT.out]
        have BP4 := Aside0.mk (blk_below BP3.out hb4)
        have HB4 := Aside0.mk (HB3.out.trans (hb4.mono HB3.out.size))
        have p0 : w4.cell? ⟨w.heap.size, 0, none⟩ = some (.slice A0_0 l0_0.length c0_0) := blk_cell BP4.out 0
        have p1 : w4.cell? ⟨w.heap.size, 1, none⟩ = some (.slice A0_1 l0_1.length c0_1) := blk_cell BP4.out 1
        clear hb4
        go_wp2_with fail
        go_ret
        exact ⟨rfl, HB4.out⟩
    · rw [if_neg hc] at h
      cases h
end Go.Proofs.YtfcjpkkglffnmaaDoor.H

set_option linter.unusedVariables false
set_option linter.unusedSimpArgs false
namespace Go.Proofs.YtfcjpkkglffnmaaDoor.H
open Go.RowKit Go.Proofs.YtfcjpkkglffnmaaDoorW.PrintWords Go.Proofs.YtfcjpkkglffnmaaDoorW.PrintLast Go.Proofs.YtfcjpkkglffnmaaDoorW.PrintMore
def resQ (k : Nat) (l0 : List S45) (l1 : List S34) : Option (List S45 × List S34 × Int × Int) :=
  if treeMayS l0 l1 = true then (if l0.length ≤ 4 ∧ 1 ≤ l1.length ∧ l1.length ≤ 512 ∧ (l0.all fun o => decide (o.f0.size ≤ 1000)) = true then
    (if twiceGo [] l0 = true then some ([], [], 0, 602) else (rnode.f k l0 l1 ((l1.length : Int) - 1) []).bind fun p => match p.1 with
      | none => some (l0, p.2, 0, 0)
      | some (a, c) => if c = 0 then none else some ([], [], a, c)) else none) else some ([], [], 0, 600)
theorem res_Q (k : Nat) (hk : 1200 ≤ k) (l0 : List S45) (l1 : List S34) : scope_Resolve.f k l0 l1 = resQ k l0 l1 := by
  unfold scope_Resolve.f resQ
  rw [treeMay_is l0 l1 k hk, Option.bind_some]
  all_goals rfl
def mayQ (k : Nat) (l0 : List S45) (l1 : List S34) : Option Bool :=
  if opsMayS l0 = true then (if l0.length ≤ 4 ∧ (l0.all fun o => decide (o.f0.size ≤ 1000)) = true then
    (if twiceGo [] l0 = true then some false else if shapedS l1 false = true then (if l1.length ≤ 512 then within.f k (l0.length : Int) l1 ((l1.length : Int) - 1) 0 else none) else some false) else none) else some false
theorem may_Q (k : Nat) (hk : 1200 ≤ k) (l0 : List S45) (l1 : List S34) : scope_May.f k l0 l1 = mayQ k l0 l1 := by
  unfold scope_May.f mayQ
  rw [opsMay_is l0 k (by omega), shaped_is l1 false k hk, Option.bind_some]
  simp only [Option.bind_some]
def sameQ6 (l m : List S34) : Option Bool := if l.length < 1300 then some (eqNodes l m) else trammellaw0_SameNodes.f 1300 l m
theorem same_Q6 (l m : List S34) : trammellaw0_SameNodes.f 1300 l m = sameQ6 l m := by
  unfold sameQ6
  split
  · rename_i h
    exact sameN_is l m 1300 h (by omega)
  · rfl
end Go.Proofs.YtfcjpkkglffnmaaDoor.H

namespace Go.Proofs.YtfcjpkkglffnmaaDoor.H
open Go.RowKit Go.Proofs.YtfcjpkkglffnmaaDoorW.PrintWords Go.Proofs.YtfcjpkkglffnmaaDoorW.PrintLast Go.Proofs.YtfcjpkkglffnmaaDoorW.PrintMore
attribute [local go_sem] max2_int min2_int max_two min_two max_three min_three max_four min_four
set_option linter.unusedVariables false
set_option linter.unusedSimpArgs false
def trammellaw0_Num.f (a0 : Int) : Option (Int) := some a0
set_option maxHeartbeats 8000000 in
set_option maxRecDepth 100000 in
theorem trammellaw0_Num.calls (a0 : Int) (r : Int) (w : World) (h : trammellaw0_Num.f a0 = some r) :
    Calls Tryd.prog 9 #[.int .i64 a0] w fun e w' => e = .returned (.int .i64 r) ∧ Drawn0 w w' := by
  have H : (some a0) = some r := h
  clear h
  obtain rfl := Option.some.inj H
  go_enter Tryd.func9, Tryd.ntmps9
  go_wp2
  go_ret
  exact ⟨by first | rfl | (simp; done) | (simp [*]; done), by repeat (first | exact Drawn0.refl _ | apply Drawn0.step)⟩
end Go.Proofs.YtfcjpkkglffnmaaDoor.H

namespace Go.Proofs.YtfcjpkkglffnmaaDoor.H
open Go.RowKit Go.Proofs.YtfcjpkkglffnmaaDoorW.PrintWords Go.Proofs.YtfcjpkkglffnmaaDoorW.PrintLast Go.Proofs.YtfcjpkkglffnmaaDoorW.PrintMore
attribute [local go_sem] max2_int min2_int max_two min_two max_three min_three max_four min_four
set_option linter.unusedVariables false
set_option linter.unusedSimpArgs false
def trammellaw6_awake.f (k : Nat)  : Option (Bool) := (some (([(⟨0, 0, 0, 0, 0, (⟨#[120]⟩ : ByteArray), (⟨#[]⟩ : ByteArray), (⟨#[]⟩ : ByteArray), (⟨#[]⟩ : ByteArray), 0⟩ : S34), (⟨9, 0, 0, 0, 0, (⟨#[97]⟩ : ByteArray), (⟨#[]⟩ : ByteArray), (⟨#[]⟩ : ByteArray), (⟨#[]⟩ : ByteArray), 0⟩ : S34), (⟨3, 1, 0, 0, 0, (⟨#[]⟩ : ByteArray), (⟨#[121]⟩ : ByteArray), (⟨#[]⟩ : ByteArray), (⟨#[]⟩ : ByteArray), 0⟩ : S34), (⟨3, 2, 0, 0, 0, (⟨#[]⟩ : ByteArray), (⟨#[120]⟩ : ByteArray), (⟨#[]⟩ : ByteArray), (⟨#[]⟩ : ByteArray), 5⟩ : S34)] : List (S34)) : List (S34))).bind fun y163 => ((scope_Resolve.f k (([(⟨(⟨#[97]⟩ : ByteArray), 0, 0⟩ : S45)] : List (S45))) y163).bind fun bt167 => ((some (([(⟨0, 0, 0, 0, 0, (⟨#[120]⟩ : ByteArray), (⟨#[]⟩ : ByteArray), (⟨#[]⟩ : ByteArray), (⟨#[]⟩ : ByteArray), 7⟩ : S34)] : List (S34)) : List (S34))).bind fun y176 => ((scope_Resolve.f k ([] : List (S45)) y176).bind fun bt180 => ((scope_Resolve.f k ([] : List (S45)) ([] : List (S34))).bind fun bt189 => ((scope_Resolve.f k ([] : List (S45)) y163).bind fun bt198 => ((trammellaw0_SameNodes.f k bt167.2.1 (([(⟨0, 0, 0, 0, 1, (⟨#[]⟩ : ByteArray), (⟨#[]⟩ : ByteArray), (⟨#[]⟩ : ByteArray), (⟨#[]⟩ : ByteArray), 0⟩ : S34), (⟨9, 0, 0, 0, 0, (⟨#[]⟩ : ByteArray), (⟨#[]⟩ : ByteArray), (⟨#[]⟩ : ByteArray), (⟨#[]⟩ : ByteArray), 0⟩ : S34), (⟨3, 1, 0, 0, 0, (⟨#[]⟩ : ByteArray), (⟨#[]⟩ : ByteArray), (⟨#[]⟩ : ByteArray), (⟨#[]⟩ : ByteArray), 0⟩ : S34), (⟨3, 2, 0, 0, 0, (⟨#[]⟩ : ByteArray), (⟨#[]⟩ : ByteArray), (⟨#[]⟩ : ByteArray), (⟨#[]⟩ : ByteArray), 5⟩ : S34)] : List (S34)))).bind fun t210 => (if t210 = true then (if (bt167.1.length : Int) = 1 then (if bt167.2.2.1 = 0 then ((trammellaw0_Num.f bt167.2.2.2).bind fun t211 => (if t211 = 0 then (if bt180.2.2.1 = 7 then ((trammellaw0_Num.f bt180.2.2.2).bind fun t212 => (if t212 = 601 then ((trammellaw0_Num.f bt189.2.2.2).bind fun t213 => (if t213 = 600 then (if bt198.2.2.1 = 0 then ((trammellaw0_Num.f bt198.2.2.2).bind fun t214 => (if t214 = 602 then ((scope_May.f k bt167.1 bt167.2.1).bind fun t215 => (if t215 = true then ((scope_May.f k ([] : List (S45)) y176).bind fun t216 => (some (!t216))) else (some false))) else (some false))) else (some false)) else (some false))) else (some false))) else (some false)) else (some false))) else (some false)) else (some false)) else (some false))))))))
end Go.Proofs.YtfcjpkkglffnmaaDoor.H
