/- Several texts in one: contracts of functions of the program, and what they lean on. In part written by a program of this session over the kit's print, in part by hand. -/
import Derived.Test.YtnogfhhfklkbiaaDoorL0
import Derived.Test.YtnogfhhfklkbiaaDoorL1
import Derived.Test.YtnogfhhfklkbiaaDoorL3
import Derived.Test.YtnogfhhfklkbiaaDoorYLexRises0
import Derived.Test.YtnogfhhfklkbiaaDoorL6
namespace Go.Proofs.YtnogfhhfklkbiaaDoor.H
open Go.RowKit Go.Proofs.YtnogfhhfklkbiaaDoorW.PrintWords Go.Proofs.YtnogfhhfklkbiaaDoorW.PrintLast Go.Proofs.YtnogfhhfklkbiaaDoorW.PrintMore
attribute [local go_sem] max2_int min2_int max_two min_two max_three min_three max_four min_four   -- for this text's walks alone
set_option linter.unusedVariables false
set_option linter.unusedSimpArgs false

/-! ### trammellaw2_LexRises: function 8 -/
mutual
def trammellaw2_LexRises.l0 : Nat → ByteArray → List (S60) → Int → Int → Int → Option (Bool)
  | 0, _, _, _, _, _ => none
  | k + 1, x0, x3, x4, x6, x7 => if x7 < (x3.length : Int) then (if 0 ≤ x7 then (if ((rd_T60 x3 x7).f0) = 1 then ((trammelref0_Decimal.f k ((rd_T60 x3 x7).f2)).bind fun t502 => (trammellaw2_LexRises.j1 k x0 x3 x4 x6 x7 t502 ((rd_T60 x3 x7).f0) ((rd_T60 x3 x7).f1) ((rd_T60 x3 x7).f2) ((rd_T60 x3 x7).f3))) else (trammellaw2_LexRises.j1 k x0 x3 x4 x6 x7 ((rd_T60 x3 x7).f1) ((rd_T60 x3 x7).f0) ((rd_T60 x3 x7).f1) ((rd_T60 x3 x7).f2) ((rd_T60 x3 x7).f3))) else (none)) else (some (x4 == 0))
def trammellaw2_LexRises.j1 : Nat → ByteArray → List (S60) → Int → Int → Int → ByteArray → Int → ByteArray → Int → Int → Option (Bool)
  | 0, _, _, _, _, _, _, _, _, _, _ => none
  | k + 1, x0, x3, x4, x6, x7, x9, x502000, x502001, x502002, x502003 => if x502003 < x6 then (some false) else (if x502003 > (wrap64 ((x0.size : Int) - (x9.size : Int))) then (some false) else (if 0 ≤ x502003 then (if x502003 ≤ (wrap64 (x502003 + (x9.size : Int))) then (if (wrap64 (x502003 + (x9.size : Int))) ≤ (x0.size : Int) then (if (x0.extract (x502003 : Int).toNat ((wrap64 (x502003 + (x9.size : Int))) : Int).toNat).toList = x9.toList then (if (x9.size : Int) = 0 then (some false) else (if x502000 = 2 then ((lex_Keyword.f k x9).bind fun t503 => (if t503 = true then (if x502000 = 0 then ((lex_Keyword.f k x9).bind fun t504 => (if t504 = true then (some false) else (trammellaw2_LexRises.l0 k x0 x3 x4 (wrap64 (x502003 + (x9.size : Int))) (wrap64 (x7 + 1))))) else (trammellaw2_LexRises.l0 k x0 x3 x4 (wrap64 (x502003 + (x9.size : Int))) (wrap64 (x7 + 1)))) else (some false))) else (if x502000 = 0 then ((lex_Keyword.f k x9).bind fun t505 => (if t505 = true then (some false) else (trammellaw2_LexRises.l0 k x0 x3 x4 (wrap64 (x502003 + (x9.size : Int))) (wrap64 (x7 + 1))))) else (trammellaw2_LexRises.l0 k x0 x3 x4 (wrap64 (x502003 + (x9.size : Int))) (wrap64 (x7 + 1)))))) else (some false)) else (none)) else (none)) else (none)))
end
def trammellaw2_LexRises.f (k : Nat) (a0 : ByteArray) : Option (Bool) := (trammellaw2_awake.f k).bind fun t493 => (if t493 = true then ((lex_Tokens.f k a0).bind fun bt494 => ((trammellaw0_Num.f bt494.2.2).bind fun t499 => (if t499 = 0 then (trammellaw2_LexRises.l0 k a0 bt494.1 bt494.2.1 0 0) else (if (bt494.1.length : Int) = 0 then (if bt494.2.1 ≥ 0 then (some (decide (bt494.2.1 ≤ (a0.size : Int)))) else (some false)) else (some false))))) else (some false))
theorem trammellaw2_LexRises.mono_l : ∀ k, (∀ y0 y1 y2 y3 y4, LeO (trammellaw2_LexRises.l0 k y0 y1 y2 y3 y4) (trammellaw2_LexRises.l0 (k + 1) y0 y1 y2 y3 y4)) ∧ (∀ y0 y1 y2 y3 y4 y5 y6 y7 y8 y9, LeO (trammellaw2_LexRises.j1 k y0 y1 y2 y3 y4 y5 y6 y7 y8 y9) (trammellaw2_LexRises.j1 (k + 1) y0 y1 y2 y3 y4 y5 y6 y7 y8 y9))
  | 0 => ⟨fun _ _ _ _ _ r h => by simp [trammellaw2_LexRises.l0] at h, fun _ _ _ _ _ _ _ _ _ _ r h => by simp [trammellaw2_LexRises.j1] at h⟩
  | k + 1 => by
    obtain ⟨ih0, ih1⟩ := trammellaw2_LexRises.mono_l k
    refine ⟨?_, ?_⟩
    · intro y0 y1 y2 y3 y4
      unfold trammellaw2_LexRises.l0
      repeat' first
      | (with_reducible exact ih0 _ _ _ _ _)
      | (with_reducible exact ih1 _ _ _ _ _ _ _ _ _ _)
      | (with_reducible exact lex_Keyword.mono _ _)
      | (with_reducible exact lex_Tokens.mono _ _)
      | (with_reducible exact trammellaw2_awake.mono _)
      | (with_reducible exact trammelref0_Decimal.mono _ _)
      | (with_reducible exact LeO.refl _)
      | (with_reducible exact LeO.none _)
      | (with_reducible refine LeO.ite ?_ ?_)
      | (with_reducible refine LeO.bind ?_ (fun _ => ?_))
      | exact ih0 _ _ _ _ _
      | exact ih1 _ _ _ _ _ _ _ _ _ _
      | exact lex_Keyword.mono _ _
      | exact lex_Tokens.mono _ _
      | exact trammellaw2_awake.mono _
      | exact trammelref0_Decimal.mono _ _
      | exact LeO.none _
      | refine LeO.ite ?_ ?_
      | refine LeO.bind ?_ (fun _ => ?_)
    · intro y0 y1 y2 y3 y4 y5 y6 y7 y8 y9
      unfold trammellaw2_LexRises.j1
      repeat' first
      | (with_reducible exact ih0 _ _ _ _ _)
      | (with_reducible exact ih1 _ _ _ _ _ _ _ _ _ _)
      | (with_reducible exact lex_Keyword.mono _ _)
      | (with_reducible exact lex_Tokens.mono _ _)
      | (with_reducible exact trammellaw2_awake.mono _)
      | (with_reducible exact trammelref0_Decimal.mono _ _)
      | (with_reducible exact LeO.refl _)
      | (with_reducible exact LeO.none _)
      | (with_reducible refine LeO.ite ?_ ?_)
      | (with_reducible refine LeO.bind ?_ (fun _ => ?_))
      | exact ih0 _ _ _ _ _
      | exact ih1 _ _ _ _ _ _ _ _ _ _
      | exact lex_Keyword.mono _ _
      | exact lex_Tokens.mono _ _
      | exact trammellaw2_awake.mono _
      | exact trammelref0_Decimal.mono _ _
      | exact LeO.none _
      | refine LeO.ite ?_ ?_
      | refine LeO.bind ?_ (fun _ => ?_)
theorem trammellaw2_LexRises.mono : ∀ a0 k, LeO (trammellaw2_LexRises.f k a0) (trammellaw2_LexRises.f (k + 1) a0) := by
  intro a0 k
  obtain ⟨ih0, ih1⟩ := trammellaw2_LexRises.mono_l k
  unfold trammellaw2_LexRises.f
  repeat' first
      | (with_reducible exact ih0 _ _ _ _ _)
      | (with_reducible exact ih1 _ _ _ _ _ _ _ _ _ _)
      | (with_reducible exact lex_Keyword.mono _ _)
      | (with_reducible exact lex_Tokens.mono _ _)
      | (with_reducible exact trammellaw2_awake.mono _)
      | (with_reducible exact trammelref0_Decimal.mono _ _)
      | (with_reducible exact LeO.refl _)
      | (with_reducible exact LeO.none _)
      | (with_reducible refine LeO.ite ?_ ?_)
      | (with_reducible refine LeO.bind ?_ (fun _ => ?_))
      | exact ih0 _ _ _ _ _
      | exact ih1 _ _ _ _ _ _ _ _ _ _
      | exact lex_Keyword.mono _ _
      | exact lex_Tokens.mono _ _
      | exact trammellaw2_awake.mono _
      | exact trammelref0_Decimal.mono _ _
      | exact LeO.none _
      | refine LeO.ite ?_ ?_
      | refine LeO.bind ?_ (fun _ => ?_)
set_option maxHeartbeats 8000000 in
set_option maxRecDepth 100000 in
theorem trammellaw2_LexRises.callsT (k : Nat) (a0 : ByteArray) (r : Bool) (w : World) (htrue : r = true) (h : trammellaw2_LexRises.f k a0 = some r) (hG : Err.ErrTy w) :
    Calls Tryd.prog 8 #[.string a0] w fun e w' => e = .returned (.bool r) ∧ Below w.heap.size w w' := by
  have HG := Aside0.mk hG
  clear hG
  have HTRUE := Aside0.mk htrue
  clear htrue
  have hu60 := Tryd.underlying60
  have HB := Aside0.mk (Below.refl w.heap.size w)
  have H : ((trammellaw2_awake.f k).bind fun t493 => (if t493 = true then ((lex_Tokens.f k a0).bind fun bt494 => ((trammellaw0_Num.f bt494.2.2).bind fun t499 => (if t499 = 0 then (trammellaw2_LexRises.l0 k a0 bt494.1 bt494.2.1 0 0) else (if (bt494.1.length : Int) = 0 then (if bt494.2.1 ≥ 0 then (some (decide (bt494.2.1 ≤ (a0.size : Int)))) else (some false)) else (some false))))) else (some false))) = some r := h
  clear h
  replace H := Option.bind_eq_some_iff.mp H
  obtain ⟨t493, A20, H⟩ := H
  replace H : (if t493 = true then ((lex_Tokens.f k a0).bind fun bt494 => ((trammellaw0_Num.f bt494.2.2).bind fun t499 => (if t499 = 0 then (trammellaw2_LexRises.l0 k a0 bt494.1 bt494.2.1 0 0) else (if (bt494.1.length : Int) = 0 then (if bt494.2.1 ≥ 0 then (some (decide (bt494.2.1 ≤ (a0.size : Int)))) else (some false)) else (some false))))) else (some false)) = some r := H
  have A2 := Aside0.mk A20
  clear A20
  by_cases c3 : t493 = true
  · subst c3
    have H1 : ((lex_Tokens.f k a0).bind fun bt494 => ((trammellaw0_Num.f bt494.2.2).bind fun t499 => (if t499 = 0 then (trammellaw2_LexRises.l0 k a0 bt494.1 bt494.2.1 0 0) else (if (bt494.1.length : Int) = 0 then (if bt494.2.1 ≥ 0 then (some (decide (bt494.2.1 ≤ (a0.size : Int)))) else (some false)) else (some false))))) = some r := by rw [if_pos rfl] at H; exact H
    clear H
    have H := H1
    clear H1
    replace H := Option.bind_eq_some_iff.mp H
    obtain ⟨⟨t494, t495, t496⟩, A40, H⟩ := H
    replace H : ((trammellaw0_Num.f t496).bind fun t499 => (if t499 = 0 then (trammellaw2_LexRises.l0 k a0 t494 t495 0 0) else (if (t494.length : Int) = 0 then (if t495 ≥ 0 then (some (decide (t495 ≤ (a0.size : Int)))) else (some false)) else (some false)))) = some r := H
    have A4 := Aside0.mk A40
    clear A40
    replace H := Option.bind_eq_some_iff.mp H
    obtain ⟨t499, A50, H⟩ := H
    replace H : (if t499 = 0 then (trammellaw2_LexRises.l0 k a0 t494 t495 0 0) else (if (t494.length : Int) = 0 then (if t495 ≥ 0 then (some (decide (t495 ≤ (a0.size : Int)))) else (some false)) else (some false))) = some r := H
    have A5 := Aside0.mk A50
    clear A50
    by_cases c6 : t499 = 0
    · rw [if_pos c6] at H
      have c6b0 : (t499 == 0) = true := beq_iff_eq.mpr c6
      have c6b1 : (t499 != 0) = false := bne_eq_false_iff_eq.mpr c6
      clear c6
      have H' := Aside0.mk H
      clear H
      go_enter Tryd.func8, Tryd.ntmps8
      go_wp2_with (first | ((with_reducible refine gate_callee (f := 33) rfl ?_); refine goesL_ (some 10) rfl rfl Tryd.func33 (by kernel_rfl) rfl #[] rfl (by (try simp only [List.map_toArray, List.map_cons, List.map_nil]); first | done | rfl | (simp only [List.length_drop, List.length_take]; rfl)) ?_; (with_reducible refine (trammellaw2_awake.calls k  true _ A2.out (HG.out.below HG.out.lt (by repeat (first | (with_reducible first | exact HB.out | apply below_alloc | apply pw_below_drewN | apply below_drew1) | exact HB.out)))).mono ?_); rintro e w7 ⟨rfl, hb⟩; refine ⟨_, rfl, ?_⟩; have n0_ := Aside0.mk (below_step (by repeat (first | (with_reducible first | exact HB.out | apply below_alloc | apply pw_below_drewN | apply below_drew1) | exact HB.out)) hb); clear HB; have HB := n0_; clear n0_; (try clear hb); (try clear hb2); (try clear hk); (try clear hi)) | ((with_reducible refine gate_callee (f := 27) rfl ?_); refine goesL_ (some 14) rfl rfl Tryd.func27 (by kernel_rfl) rfl #[.string a0] rfl (by (try simp only [List.map_toArray, List.map_cons, List.map_nil]); first | done | rfl | (simp only [List.length_drop, List.length_take]; rfl)) ?_; (with_reducible refine (lex_Tokens.calls k a0 t494 t495 t496 _ A4.out (HG.out.below HG.out.lt (by repeat (first | (with_reducible first | exact HB.out | apply below_alloc | apply pw_below_drewN | apply below_drew1) | exact HB.out)))).mono ?_); rintro e w8 ⟨v497, rfl, ho0, hb⟩; refine ⟨_, rfl, ?_⟩; have n0_ := Aside0.mk (Kd.R_lower ho0 (below_size (by repeat (first | (with_reducible first | exact HB.out | apply below_alloc | apply pw_below_drewN | apply below_drew1) | exact HB.out)))); have n1_ := Aside0.mk (below_step (by repeat (first | (with_reducible first | exact HB.out | apply below_alloc | apply pw_below_drewN | apply below_drew1) | exact HB.out)) hb); clear HB; have HO498 := n0_; have HB := n1_; clear n0_ n1_; (try clear hb); (try clear hb2); (try clear hk); (try clear hi); (try clear ho0)) | ((with_reducible refine gate_callee (f := 18) rfl ?_); refine goesL_ (some 19) rfl rfl Tryd.func18 (by kernel_rfl) rfl #[.int .i64 t496] rfl (by (try simp only [List.map_toArray, List.map_cons, List.map_nil]); first | done | rfl | (simp only [List.length_drop, List.length_take]; rfl)) ?_; (with_reducible refine (trammellaw0_Num.calls t496 t499 _ A5.out).mono ?_); rintro e w' ⟨rfl, ⟨nd, rfl⟩⟩; refine ⟨_, rfl, ?_⟩))
      go_loopg [6, 7] k (fun kq v6 v7 w' => ∃ (x6_1 : Int) (x7_1 : Int), v6 = .int .i64 x6_1 ∧ v7 = .int .i64 x7_1 ∧ Aside0 (trammellaw2_LexRises.l0 kq a0 t494 t495 x6_1 x7_1 = some r) ∧ Aside0 (kq ≤ k) ∧ Aside0 (Kd.R k60 60 w' w.heap.size (fun _ => True) v497 t494) ∧ Aside0 (Below w.heap.size w w'))
      case atStart => exact ⟨(0), (0), (by first | rfl | (simp; done) | (simp [*]; done)), (by first | rfl | (simp; done) | (simp [*]; done)), H', ⟨Nat.le_refl _⟩, ⟨by (with_reducible repeat (first | apply Kd.R_alloc | apply Kd.R_drewN | apply Kd.R_drew)); exact HO498.out⟩, ⟨by repeat (first | (with_reducible first | exact HB.out | apply below_alloc | apply pw_below_drewN | apply below_drew1) | exact HB.out)⟩⟩
      case round =>
        clear H'
        try clear c1
        try clear c2
        try clear p2
        try clear c3
        try clear c6
        try clear c6b0
        try clear c6b1
        try clear c8
        obtain ⟨x6_1, x7_1, rfl, rfl, HA, HK1, HO_3, HB⟩ := hrel
        cases gk with
        | zero => exact absurd HA.out (by simp [trammellaw2_LexRises.l0])
        | succ k1 =>
          have H := HA.out
          clear HA
          simp only [trammellaw2_LexRises.l0] at H
          by_cases c9 : x7_1 < (t494.length : Int)
          · rw [if_pos c9] at H
            have c9b0 : decide (x7_1 < (t494.length : Int)) = true := decide_eq_true c9
            clear c9
            by_cases c10 : 0 ≤ x7_1
            · rw [if_pos c10] at H
              have c10b0 : decide (0 ≤ x7_1) = true := decide_eq_true c10
              clear c10
              have HC11 := Aside0.mk H
              clear H
              obtain ⟨Ao12, co12, eo12⟩ := Kd.R_slice HO_3.out
              subst eo12
              have p500 : 0 ≤ (x7_1 : Int) := of_decide_eq_true (by first | (with_reducible assumption) | assumption)
              have q500 : x7_1 < (t494.length : Int) := of_decide_eq_true (by first | (with_reducible assumption) | assumption)
              obtain ⟨ad500, e500, hx500_0, hx500_1, hx500_2, hx500_3⟩ := at_T60 (Kd.R_reads' HO_3.out).2.2 x7_1 p500 q500
              cases e500
              replace p500 := eq_true p500
              replace q500 := eq_true q500
              go_upto_if 48 with (first | ((with_reducible refine gate_dst (N := 8) rfl ?_); (try (refine gate_guard (by rfl) ?_; dsimp only)); refine box_event ?hg (N := 8) ?hd (cs := #[.int .i64 0, .string (⟨#[]⟩ : ByteArray), .int .i64 0, .int .i64 0]) (t := 60) ?hr ?_; (case hd => rfl); (case hg => rfl); (case hr => first | (go_simp; done) | (go_simp; rfl)); intro gb501 hg w13 hbox hb; have n0_ := Aside0.mk (Kd.R_below (Kd.R_elderB (by (with_reducible repeat (first | apply Kd.R_alloc | apply Kd.R_drewN | apply Kd.R_drew)); exact HO_3.out) gb501 (Nat.le_of_eq hg.symm)) hb); have n1_ := Aside0.mk (below_step (by repeat (first | (with_reducible first | exact HB.out | apply below_alloc | apply pw_below_drewN | apply below_drew1) | exact HB.out)) hb); have n2_ := Aside0.mk (hbox); have n3_ := Aside0.mk ((by rw [hg]; exact (below_size (by repeat (first | (with_reducible first | exact HB.out | apply below_alloc | apply pw_below_drewN | apply below_drew1) | exact HB.out))) : w.heap.size ≤ gb501)); have n4_ := Aside0.mk ((by rw [hg]; exact (below_size (by repeat (first | (with_reducible first | exact HB.out | apply below_alloc | apply pw_below_drewN | apply below_drew1) | exact HB.out))) : w.heap.size ≤ gb501)); clear HO_3; clear HB; have HO_3 := n0_; have HB := n1_; have BK501 := n2_; have GW501 := n3_; have GE501 := n4_; clear n0_ n1_ n2_ n3_ n4_; clear hb hbox hg; have hcz14_0 : w13.cell? ⟨gb501, 0, none⟩ = some (.int .i64 0) := (blk_cell BK501.out 0).trans rfl; have hcz14_1 : w13.cell? ⟨gb501, 1, none⟩ = some (.string (⟨#[]⟩ : ByteArray)) := (blk_cell BK501.out 1).trans rfl; have hcz14_2 : w13.cell? ⟨gb501, 2, none⟩ = some (.int .i64 0) := (blk_cell BK501.out 2).trans rfl; have hcz14_3 : w13.cell? ⟨gb501, 3, none⟩ = some (.int .i64 0) := (blk_cell BK501.out 3).trans rfl; have hfz14_0 := blk_frozen BK501.out 0; have hfz14_1 := blk_frozen BK501.out 1; have hfz14_2 := blk_frozen BK501.out 2; have hfz14_3 := blk_frozen BK501.out 3))
              (try simp only [Act.put, List.setIfInBounds_toArray, List.set_cons_zero, List.set_cons_succ])
              go_cut [9] (fun v9 wc => ∃ (kq : Nat) (x9_10 : ByteArray), v9 = .string x9_10 ∧ Aside0 (trammellaw2_LexRises.j1 kq a0 t494 t495 x6_1 x7_1 x9_10 ((rd_T60 t494 x7_1).f0) ((rd_T60 t494 x7_1).f1) ((rd_T60 t494 x7_1).f2) ((rd_T60 t494 x7_1).f3) = some r) ∧ Aside0 (kq ≤ k1) ∧ Aside0 (Kd.R k60 60 wc w.heap.size (fun k_ => k_ ≠ gb501) (.slice (some ad500) t494.length co12) t494) ∧ Aside0 (wc.heap[gb501]? = some (.cells #[.int .i64 ((rd_T60 t494 x7_1).f0), .string ((rd_T60 t494 x7_1).f1), .int .i64 ((rd_T60 t494 x7_1).f2), .int .i64 ((rd_T60 t494 x7_1).f3)] 60 (0, 0))) ∧ Aside0 (Below w.heap.size w wc))
              case first =>
                have H := HC11.out
                clear HC11
                by_cases c15 : ((rd_T60 t494 x7_1).f0) = 1
                · rw [if_pos c15] at H
                  have c15b0 : (((rd_T60 t494 x7_1).f0) == 1) = true := beq_iff_eq.mpr c15
                  have c15b1 : (((rd_T60 t494 x7_1).f0) != 1) = false := bne_eq_false_iff_eq.mpr c15
                  clear c15
                  (first | rw [c15b0] | (simp only [i64_w, i32_w]; rw [c15b0]) | skip)
                  replace H := Option.bind_eq_some_iff.mp H
                  obtain ⟨t502, A160, H⟩ := H
                  replace H : (trammellaw2_LexRises.j1 k1 a0 t494 t495 x6_1 x7_1 t502 ((rd_T60 t494 x7_1).f0) ((rd_T60 t494 x7_1).f1) ((rd_T60 t494 x7_1).f2) ((rd_T60 t494 x7_1).f3)) = some r := H
                  have A16 := Aside0.mk A160
                  clear A160
                  have H' := Aside0.mk H
                  clear H
                  have hcz17_0 : w13.cell? ⟨gb501, 0, none⟩ = some (.int .i64 0) := (blk_cell BK501.out 0).trans rfl
                  have hcz17_1 : w13.cell? ⟨gb501, 1, none⟩ = some (.string (⟨#[]⟩ : ByteArray)) := (blk_cell BK501.out 1).trans rfl
                  have hcz17_2 : w13.cell? ⟨gb501, 2, none⟩ = some (.int .i64 0) := (blk_cell BK501.out 2).trans rfl
                  have hcz17_3 : w13.cell? ⟨gb501, 3, none⟩ = some (.int .i64 0) := (blk_cell BK501.out 3).trans rfl
                  have hfz17_0 := blk_frozen BK501.out 0
                  have hfz17_1 := blk_frozen BK501.out 1
                  have hfz17_2 := blk_frozen BK501.out 2
                  have hfz17_3 := blk_frozen BK501.out 3
                  go_wp2_with (first | ((with_reducible refine gate_callee (f := 34) rfl ?_); refine goesL_ (some 51) rfl rfl Tryd.func34 (by kernel_rfl) rfl #[.int .i64 ((rd_T60 t494 x7_1).f2)] rfl (by (try simp only [List.map_toArray, List.map_cons, List.map_nil]); first | done | rfl | (simp only [List.length_drop, List.length_take]; rfl)) ?_; (with_reducible refine (trammelref0_Decimal.calls k1 ((rd_T60 t494 x7_1).f2) t502 _ A16.out).mono ?_); rintro e w18 ⟨rfl, hb⟩; refine ⟨_, rfl, ?_⟩; have n0_ := Aside0.mk (Kd.R_below (by (with_reducible repeat (first | apply Kd.R_alloc | apply Kd.R_drewN | apply Kd.R_drew)); exact (Kd.R_mono (Kd.R_far (p := ⟨gb501, 3, none⟩) (Kd.R_far (p := ⟨gb501, 2, none⟩) (Kd.R_far (p := ⟨gb501, 1, none⟩) (Kd.R_far (p := ⟨gb501, 0, none⟩) (Kd.R_mono HO_3.out (fun k_ hk => (⟨hk, hk.2⟩ : _ ∧ k_ ≠ gb501))) (fun _ hk => hk.2) (.int .i64 ((rd_T60 t494 x7_1).f0))) (fun _ hk => hk.2) (.string ((rd_T60 t494 x7_1).f1))) (fun _ hk => hk.2) (.int .i64 ((rd_T60 t494 x7_1).f2))) (fun _ hk => hk.2) (.int .i64 ((rd_T60 t494 x7_1).f3))) (fun _ h_ => h_.1))) hb); have n1_ := Aside0.mk (blk_below (g := gb501) (o := .cells #[.int .i64 ((rd_T60 t494 x7_1).f0), .string ((rd_T60 t494 x7_1).f1), .int .i64 ((rd_T60 t494 x7_1).f2), .int .i64 ((rd_T60 t494 x7_1).f3)] 60 (0, 0)) (by (with_reducible repeat (first | refine blk_drewN ?_ _ | refine blk_drew ?_ | refine blk_alloc ?_ _)); refine blk_put (cs := #[.int .i64 ((rd_T60 t494 x7_1).f0), .string ((rd_T60 t494 x7_1).f1), .int .i64 ((rd_T60 t494 x7_1).f2), .int .i64 0]) ?_ 3 _ rfl; (with_reducible repeat (first | refine blk_drewN ?_ _ | refine blk_drew ?_ | refine blk_alloc ?_ _)); refine blk_put (cs := #[.int .i64 ((rd_T60 t494 x7_1).f0), .string ((rd_T60 t494 x7_1).f1), .int .i64 0, .int .i64 0]) ?_ 2 _ rfl; (with_reducible repeat (first | refine blk_drewN ?_ _ | refine blk_drew ?_ | refine blk_alloc ?_ _)); refine blk_put (cs := #[.int .i64 ((rd_T60 t494 x7_1).f0), .string (⟨#[]⟩ : ByteArray), .int .i64 0, .int .i64 0]) ?_ 1 _ rfl; (with_reducible repeat (first | refine blk_drewN ?_ _ | refine blk_drew ?_ | refine blk_alloc ?_ _)); refine blk_put (cs := #[.int .i64 0, .string (⟨#[]⟩ : ByteArray), .int .i64 0, .int .i64 0]) ?_ 0 _ rfl; (with_reducible repeat (first | refine blk_drewN ?_ _ | refine blk_drew ?_ | refine blk_alloc ?_ _)); exact BK501.out) hb); have n2_ := Aside0.mk (below_step (by repeat (first | (with_reducible first | exact HB.out | apply below_alloc | apply pw_below_drewN | apply below_drew1 | refine below_set ?_ GE501.out) | exact HB.out)) hb); clear HO_3; clear BK501; clear HB; have HO_3 := n0_; have BK501 := n1_; have HB := n2_; clear n0_ n1_ n2_; (try clear hb); (try clear hb2); (try clear hk); (try clear hi)))
                  go_meet
                  case rel => exact ⟨_, (t502), (by first | rfl | (simp; done) | (simp [*]; done)), H', ⟨by have := HK1.out; first | omega | exact Nat.le_refl _⟩, ⟨by (with_reducible repeat (first | apply Kd.R_alloc | apply Kd.R_drewN | apply Kd.R_drew)); exact Kd.R_mono HO_3.out (fun _ hk => hk.2)⟩, ⟨by (with_reducible repeat (first | refine blk_drewN ?_ _ | refine blk_drew ?_ | refine blk_alloc ?_ _)); exact BK501.out⟩, ⟨by repeat (first | (with_reducible first | exact HB.out | apply below_alloc | apply pw_below_drewN | apply below_drew1 | refine below_set ?_ GE501.out) | exact HB.out)⟩⟩
                · rw [if_neg c15] at H
                  have c15b0 : (((rd_T60 t494 x7_1).f0) == 1) = false := beq_eq_false_iff_ne.mpr c15
                  have c15b1 : (((rd_T60 t494 x7_1).f0) != 1) = true := bne_iff_ne.mpr c15
                  (first | rw [c15b0] | (simp only [i64_w, i32_w]; rw [c15b0]) | skip)
                  have H' := Aside0.mk H
                  clear H
                  go_wp2
                  go_meet
                  case rel => exact ⟨_, ((rd_T60 t494 x7_1).f1), (by first | rfl | (simp; done) | (simp [*]; done)), H', ⟨by have := HK1.out; first | omega | exact Nat.le_refl _⟩, ⟨by (with_reducible repeat (first | apply Kd.R_alloc | apply Kd.R_drewN | apply Kd.R_drew)); exact Kd.R_mono (Kd.R_far (p := ⟨gb501, 3, none⟩) (Kd.R_far (p := ⟨gb501, 2, none⟩) (Kd.R_far (p := ⟨gb501, 1, none⟩) (Kd.R_far (p := ⟨gb501, 0, none⟩) (Kd.R_mono HO_3.out (fun k_ hk => (⟨hk, hk.2⟩ : _ ∧ k_ ≠ gb501))) (fun _ hk => hk.2) (.int .i64 ((rd_T60 t494 x7_1).f0))) (fun _ hk => hk.2) (.string ((rd_T60 t494 x7_1).f1))) (fun _ hk => hk.2) (.int .i64 ((rd_T60 t494 x7_1).f2))) (fun _ hk => hk.2) (.int .i64 ((rd_T60 t494 x7_1).f3))) (fun _ hk => hk.1.2)⟩, ⟨by (with_reducible repeat (first | refine blk_drewN ?_ _ | refine blk_drew ?_ | refine blk_alloc ?_ _)); refine blk_put (cs := #[.int .i64 ((rd_T60 t494 x7_1).f0), .string ((rd_T60 t494 x7_1).f1), .int .i64 ((rd_T60 t494 x7_1).f2), .int .i64 0]) ?_ 3 _ rfl; (with_reducible repeat (first | refine blk_drewN ?_ _ | refine blk_drew ?_ | refine blk_alloc ?_ _)); refine blk_put (cs := #[.int .i64 ((rd_T60 t494 x7_1).f0), .string ((rd_T60 t494 x7_1).f1), .int .i64 0, .int .i64 0]) ?_ 2 _ rfl; (with_reducible repeat (first | refine blk_drewN ?_ _ | refine blk_drew ?_ | refine blk_alloc ?_ _)); refine blk_put (cs := #[.int .i64 ((rd_T60 t494 x7_1).f0), .string (⟨#[]⟩ : ByteArray), .int .i64 0, .int .i64 0]) ?_ 1 _ rfl; (with_reducible repeat (first | refine blk_drewN ?_ _ | refine blk_drew ?_ | refine blk_alloc ?_ _)); refine blk_put (cs := #[.int .i64 0, .string (⟨#[]⟩ : ByteArray), .int .i64 0, .int .i64 0]) ?_ 0 _ rfl; (with_reducible repeat (first | refine blk_drewN ?_ _ | refine blk_drew ?_ | refine blk_alloc ?_ _)); exact BK501.out⟩, ⟨by repeat (first | (with_reducible first | exact HB.out | apply below_alloc | apply pw_below_drewN | apply below_drew1 | refine below_set ?_ GE501.out) | exact HB.out)⟩⟩
              case rest =>
                clear HC11
                try clear c1
                try clear c2
                try clear p2
                try clear c3
                try clear p5
                try clear q5
                try clear hx5
                try clear c6
                try clear c6b0
                try clear c6b1
                try clear c8
                try clear c9
                try clear c9b0
                try clear c10
                try clear c10b0
                try clear c15
                try clear c15b0
                try clear c15b1
                try clear c18
                try clear hcz14_0
                try clear hcz14_1
                try clear hcz14_2
                try clear hcz14_3
                try clear hcz17_0
                try clear hcz17_1
                try clear hcz17_2
                try clear hcz17_3
                try clear hfz14_0
                try clear hfz14_1
                try clear hfz14_2
                try clear hfz14_3
                try clear hfz17_0
                try clear hfz17_1
                try clear hfz17_2
                try clear hfz17_3
                try clear hx500_0
                try clear hx500_1
                try clear hx500_2
                try clear hx500_3
                try clear p2
                try clear p500
                try clear q500
                obtain ⟨kq, x9_10, rfl, HA, HJ10, HO_3, BK501, HB⟩ := hcut
                cases kq with
                | zero => exact absurd HA.out (by simp [trammellaw2_LexRises.j1])
                | succ kj10 =>
                  have H := HA.out
                  clear HA
                  simp only [trammellaw2_LexRises.j1] at H
                  by_cases c19 : ((rd_T60 t494 x7_1).f3) < x6_1
                  · rw [if_pos c19] at H
                    have c19b0 : decide (((rd_T60 t494 x7_1).f3) < x6_1) = true := decide_eq_true c19
                    clear c19
                    exact absurd ((Option.some.inj H).trans HTRUE.out) (by decide)
                  · rw [if_neg c19] at H
                    have c19b0 : decide (((rd_T60 t494 x7_1).f3) < x6_1) = false := decide_eq_false c19
                    clear c19
                    by_cases c20 : ((rd_T60 t494 x7_1).f3) > (wrap64 ((a0.size : Int) - (x9_10.size : Int)))
                    · rw [if_pos c20] at H
                      have c20b0 : decide ((wrap64 ((a0.size : Int) - (x9_10.size : Int))) < ((rd_T60 t494 x7_1).f3)) = true := decide_eq_true c20
                      clear c20
                      exact absurd ((Option.some.inj H).trans HTRUE.out) (by decide)
                    · rw [if_neg c20] at H
                      have c20b0 : decide ((wrap64 ((a0.size : Int) - (x9_10.size : Int))) < ((rd_T60 t494 x7_1).f3)) = false := decide_eq_false c20
                      clear c20
                      by_cases c21 : 0 ≤ ((rd_T60 t494 x7_1).f3)
                      · rw [if_pos c21] at H
                        have c21b0 := eq_true c21
                        have c21b1 : decide (0 ≤ ((rd_T60 t494 x7_1).f3)) = true := decide_eq_true c21
                        clear c21
                        by_cases c22 : ((rd_T60 t494 x7_1).f3) ≤ (wrap64 (((rd_T60 t494 x7_1).f3) + (x9_10.size : Int)))
                        · rw [if_pos c22] at H
                          have c22b0 := eq_true c22
                          have c22b1 : decide (((rd_T60 t494 x7_1).f3) ≤ (wrap64 (((rd_T60 t494 x7_1).f3) + (x9_10.size : Int)))) = true := decide_eq_true c22
                          by_cases c23 : (wrap64 (((rd_T60 t494 x7_1).f3) + (x9_10.size : Int))) ≤ (a0.size : Int)
                          · rw [if_pos c23] at H
                            have c23b0 := eq_true c23
                            have c23b1 : decide ((wrap64 (((rd_T60 t494 x7_1).f3) + (x9_10.size : Int))) ≤ (a0.size : Int)) = true := decide_eq_true c23
                            by_cases c24 : (a0.extract (((rd_T60 t494 x7_1).f3) : Int).toNat ((wrap64 (((rd_T60 t494 x7_1).f3) + (x9_10.size : Int))) : Int).toNat).toList = x9_10.toList
                            · rw [if_pos c24] at H
                              have c24b0 : ((a0.extract (((rd_T60 t494 x7_1).f3) : Int).toNat ((wrap64 (((rd_T60 t494 x7_1).f3) + (x9_10.size : Int))) : Int).toNat).toList == x9_10.toList) = true := beq_iff_eq.mpr c24
                              have c24b1 : ((a0.extract (((rd_T60 t494 x7_1).f3) : Int).toNat ((wrap64 (((rd_T60 t494 x7_1).f3) + (x9_10.size : Int))) : Int).toNat).toList != x9_10.toList) = false := bne_eq_false_iff_eq.mpr c24
                              clear c24
                              by_cases c25 : (x9_10.size : Int) = 0
                              · rw [if_pos c25] at H
                                have c25b0 : ((x9_10.size : Int) == 0) = true := beq_iff_eq.mpr c25
                                have c25b1 : ((x9_10.size : Int) != 0) = false := bne_eq_false_iff_eq.mpr c25
                                clear c25
                                exact absurd ((Option.some.inj H).trans HTRUE.out) (by decide)
                              · rw [if_neg c25] at H
                                have c25b0 : ((x9_10.size : Int) == 0) = false := beq_eq_false_iff_ne.mpr c25
                                have c25b1 : ((x9_10.size : Int) != 0) = true := bne_iff_ne.mpr c25
                                by_cases c26 : ((rd_T60 t494 x7_1).f0) = 2
                                · rw [if_pos c26] at H
                                  have c26b0 : (((rd_T60 t494 x7_1).f0) == 2) = true := beq_iff_eq.mpr c26
                                  have c26b1 : (((rd_T60 t494 x7_1).f0) != 2) = false := bne_eq_false_iff_eq.mpr c26
                                  clear c26
                                  replace H := Option.bind_eq_some_iff.mp H
                                  obtain ⟨t503, A270, H⟩ := H
                                  replace H : (if t503 = true then (if ((rd_T60 t494 x7_1).f0) = 0 then ((lex_Keyword.f kj10 x9_10).bind fun t504 => (if t504 = true then (some false) else (trammellaw2_LexRises.l0 kj10 a0 t494 t495 (wrap64 (((rd_T60 t494 x7_1).f3) + (x9_10.size : Int))) (wrap64 (x7_1 + 1))))) else (trammellaw2_LexRises.l0 kj10 a0 t494 t495 (wrap64 (((rd_T60 t494 x7_1).f3) + (x9_10.size : Int))) (wrap64 (x7_1 + 1)))) else (some false)) = some r := H
                                  have A27 := Aside0.mk A270
                                  clear A270
                                  by_cases c28 : t503 = true
                                  · subst c28
                                    have H1 : (if ((rd_T60 t494 x7_1).f0) = 0 then ((lex_Keyword.f kj10 x9_10).bind fun t504 => (if t504 = true then (some false) else (trammellaw2_LexRises.l0 kj10 a0 t494 t495 (wrap64 (((rd_T60 t494 x7_1).f3) + (x9_10.size : Int))) (wrap64 (x7_1 + 1))))) else (trammellaw2_LexRises.l0 kj10 a0 t494 t495 (wrap64 (((rd_T60 t494 x7_1).f3) + (x9_10.size : Int))) (wrap64 (x7_1 + 1)))) = some r := by rw [if_pos rfl] at H; exact H
                                    clear H
                                    have H := H1
                                    clear H1
                                    by_cases c29 : ((rd_T60 t494 x7_1).f0) = 0
                                    · exact absurd ((beq_iff_eq.mp c26b0).symm.trans c29) (by decide)
                                    · rw [if_neg c29] at H
                                      have c29b0 : (((rd_T60 t494 x7_1).f0) == 0) = false := beq_eq_false_iff_ne.mpr c29
                                      have c29b1 : (((rd_T60 t494 x7_1).f0) != 0) = true := bne_iff_ne.mpr c29
                                      have H' := Aside0.mk H
                                      clear H
                                      have hcz37_0 : wc.cell? ⟨gb501, 0, none⟩ = some (.int .i64 ((rd_T60 t494 x7_1).f0)) := (blk_cell BK501.out 0).trans rfl
                                      have hcz37_1 : wc.cell? ⟨gb501, 1, none⟩ = some (.string ((rd_T60 t494 x7_1).f1)) := (blk_cell BK501.out 1).trans rfl
                                      have hcz37_2 : wc.cell? ⟨gb501, 2, none⟩ = some (.int .i64 ((rd_T60 t494 x7_1).f2)) := (blk_cell BK501.out 2).trans rfl
                                      have hcz37_3 : wc.cell? ⟨gb501, 3, none⟩ = some (.int .i64 ((rd_T60 t494 x7_1).f3)) := (blk_cell BK501.out 3).trans rfl
                                      have hfz37_0 := blk_frozen BK501.out 0
                                      have hfz37_1 := blk_frozen BK501.out 1
                                      have hfz37_2 := blk_frozen BK501.out 2
                                      have hfz37_3 := blk_frozen BK501.out 3
                                      go_wp2_with (first | (go_at_call 30; (with_reducible refine (lex_Keyword.calls kj10 x9_10 true _ A27.out).mono ?_); rintro e w38 ⟨rfl, hb⟩; have n0_ := Aside0.mk (Kd.R_below (by (with_reducible repeat (first | apply Kd.R_alloc | apply Kd.R_drewN | apply Kd.R_drew)); exact HO_3.out) hb); have n1_ := Aside0.mk (blk_below (g := gb501) (o := .cells #[.int .i64 ((rd_T60 t494 x7_1).f0), .string ((rd_T60 t494 x7_1).f1), .int .i64 ((rd_T60 t494 x7_1).f2), .int .i64 ((rd_T60 t494 x7_1).f3)] 60 (0, 0)) (by (with_reducible repeat (first | refine blk_drewN ?_ _ | refine blk_drew ?_ | refine blk_alloc ?_ _)); exact BK501.out) hb); have n2_ := Aside0.mk (below_step (by repeat (first | (with_reducible first | exact HB.out | apply below_alloc | apply pw_below_drewN | apply below_drew1 | refine below_set ?_ GE501.out) | exact HB.out)) hb); clear HO_3; clear BK501; clear HB; have HO_3 := n0_; have BK501 := n1_; have HB := n2_; clear n0_ n1_ n2_; (try clear hb); (try clear hb2); (try clear hk); (try clear hi); have hcz39_0 : w38.cell? ⟨gb501, 0, none⟩ = some (.int .i64 ((rd_T60 t494 x7_1).f0)) := (blk_cell BK501.out 0).trans rfl; have hcz39_1 : w38.cell? ⟨gb501, 1, none⟩ = some (.string ((rd_T60 t494 x7_1).f1)) := (blk_cell BK501.out 1).trans rfl; have hcz39_2 : w38.cell? ⟨gb501, 2, none⟩ = some (.int .i64 ((rd_T60 t494 x7_1).f2)) := (blk_cell BK501.out 2).trans rfl; have hcz39_3 : w38.cell? ⟨gb501, 3, none⟩ = some (.int .i64 ((rd_T60 t494 x7_1).f3)) := (blk_cell BK501.out 3).trans rfl; have hfz39_0 := blk_frozen BK501.out 0; have hfz39_1 := blk_frozen BK501.out 1; have hfz39_2 := blk_frozen BK501.out 2; have hfz39_3 := blk_frozen BK501.out 3))
                                      go_roundg kj10
                                      case measure => have := HK1.out; have := HJ10.out; omega
                                      case rel => exact ⟨(wrap64 (((rd_T60 t494 x7_1).f3) + (x9_10.size : Int))), (wrap64 (x7_1 + 1)), (by first | rfl | (simp; done) | (simp [*]; done)), (by first | rfl | (simp; done) | (simp [*]; done)), H', ⟨by have := HK1.out; have := HJ10.out; omega⟩, ⟨by (with_reducible repeat (first | apply Kd.R_alloc | apply Kd.R_drewN | apply Kd.R_drew)); exact Kd.R_mono HO_3.out (fun _ hk => trivial)⟩, ⟨by repeat (first | (with_reducible first | exact HB.out | apply below_alloc | apply pw_below_drewN | apply below_drew1 | refine below_set ?_ GE501.out) | exact HB.out)⟩⟩
                                  · replace c28 := Bool.eq_false_iff.mpr c28
                                    subst c28
                                    have H1 : (some false) = some r := by rw [if_neg (show ¬ (false = true) by decide)] at H; exact H
                                    clear H
                                    have H := H1
                                    clear H1
                                    exact absurd ((Option.some.inj H).trans HTRUE.out) (by decide)
                                · rw [if_neg c26] at H
                                  have c26b0 : (((rd_T60 t494 x7_1).f0) == 2) = false := beq_eq_false_iff_ne.mpr c26
                                  have c26b1 : (((rd_T60 t494 x7_1).f0) != 2) = true := bne_iff_ne.mpr c26
                                  by_cases c40 : ((rd_T60 t494 x7_1).f0) = 0
                                  · rw [if_pos c40] at H
                                    have c40b0 : (((rd_T60 t494 x7_1).f0) == 0) = true := beq_iff_eq.mpr c40
                                    have c40b1 : (((rd_T60 t494 x7_1).f0) != 0) = false := bne_eq_false_iff_eq.mpr c40
                                    clear c40
                                    replace H := Option.bind_eq_some_iff.mp H
                                    obtain ⟨t505, A410, H⟩ := H
                                    replace H : (if t505 = true then (some false) else (trammellaw2_LexRises.l0 kj10 a0 t494 t495 (wrap64 (((rd_T60 t494 x7_1).f3) + (x9_10.size : Int))) (wrap64 (x7_1 + 1)))) = some r := H
                                    have A41 := Aside0.mk A410
                                    clear A410
                                    by_cases c42 : t505 = true
                                    · subst c42
                                      have H1 : (some false) = some r := by rw [if_pos rfl] at H; exact H
                                      clear H
                                      have H := H1
                                      clear H1
                                      exact absurd ((Option.some.inj H).trans HTRUE.out) (by decide)
                                    · replace c42 := Bool.eq_false_iff.mpr c42
                                      subst c42
                                      have H1 : (trammellaw2_LexRises.l0 kj10 a0 t494 t495 (wrap64 (((rd_T60 t494 x7_1).f3) + (x9_10.size : Int))) (wrap64 (x7_1 + 1))) = some r := by rw [if_neg (show ¬ (false = true) by decide)] at H; exact H
                                      clear H
                                      have H := H1
                                      clear H1
                                      have H' := Aside0.mk H
                                      clear H
                                      have hcz43_0 : wc.cell? ⟨gb501, 0, none⟩ = some (.int .i64 ((rd_T60 t494 x7_1).f0)) := (blk_cell BK501.out 0).trans rfl
                                      have hcz43_1 : wc.cell? ⟨gb501, 1, none⟩ = some (.string ((rd_T60 t494 x7_1).f1)) := (blk_cell BK501.out 1).trans rfl
                                      have hcz43_2 : wc.cell? ⟨gb501, 2, none⟩ = some (.int .i64 ((rd_T60 t494 x7_1).f2)) := (blk_cell BK501.out 2).trans rfl
                                      have hcz43_3 : wc.cell? ⟨gb501, 3, none⟩ = some (.int .i64 ((rd_T60 t494 x7_1).f3)) := (blk_cell BK501.out 3).trans rfl
                                      have hfz43_0 := blk_frozen BK501.out 0
                                      have hfz43_1 := blk_frozen BK501.out 1
                                      have hfz43_2 := blk_frozen BK501.out 2
                                      have hfz43_3 := blk_frozen BK501.out 3
                                      go_wp2_with (first | (go_at_call 30; (with_reducible refine (lex_Keyword.calls kj10 x9_10 false _ A41.out).mono ?_); rintro e w44 ⟨rfl, hb⟩; have n0_ := Aside0.mk (Kd.R_below (by (with_reducible repeat (first | apply Kd.R_alloc | apply Kd.R_drewN | apply Kd.R_drew)); exact HO_3.out) hb); have n1_ := Aside0.mk (blk_below (g := gb501) (o := .cells #[.int .i64 ((rd_T60 t494 x7_1).f0), .string ((rd_T60 t494 x7_1).f1), .int .i64 ((rd_T60 t494 x7_1).f2), .int .i64 ((rd_T60 t494 x7_1).f3)] 60 (0, 0)) (by (with_reducible repeat (first | refine blk_drewN ?_ _ | refine blk_drew ?_ | refine blk_alloc ?_ _)); exact BK501.out) hb); have n2_ := Aside0.mk (below_step (by repeat (first | (with_reducible first | exact HB.out | apply below_alloc | apply pw_below_drewN | apply below_drew1 | refine below_set ?_ GE501.out) | exact HB.out)) hb); clear HO_3; clear BK501; clear HB; have HO_3 := n0_; have BK501 := n1_; have HB := n2_; clear n0_ n1_ n2_; (try clear hb); (try clear hb2); (try clear hk); (try clear hi); have hcz45_0 : w44.cell? ⟨gb501, 0, none⟩ = some (.int .i64 ((rd_T60 t494 x7_1).f0)) := (blk_cell BK501.out 0).trans rfl; have hcz45_1 : w44.cell? ⟨gb501, 1, none⟩ = some (.string ((rd_T60 t494 x7_1).f1)) := (blk_cell BK501.out 1).trans rfl; have hcz45_2 : w44.cell? ⟨gb501, 2, none⟩ = some (.int .i64 ((rd_T60 t494 x7_1).f2)) := (blk_cell BK501.out 2).trans rfl; have hcz45_3 : w44.cell? ⟨gb501, 3, none⟩ = some (.int .i64 ((rd_T60 t494 x7_1).f3)) := (blk_cell BK501.out 3).trans rfl; have hfz45_0 := blk_frozen BK501.out 0; have hfz45_1 := blk_frozen BK501.out 1; have hfz45_2 := blk_frozen BK501.out 2; have hfz45_3 := blk_frozen BK501.out 3))
                                      go_roundg kj10
                                      case measure => have := HK1.out; have := HJ10.out; omega
                                      case rel => exact ⟨(wrap64 (((rd_T60 t494 x7_1).f3) + (x9_10.size : Int))), (wrap64 (x7_1 + 1)), (by first | rfl | (simp; done) | (simp [*]; done)), (by first | rfl | (simp; done) | (simp [*]; done)), H', ⟨by have := HK1.out; have := HJ10.out; omega⟩, ⟨by (with_reducible repeat (first | apply Kd.R_alloc | apply Kd.R_drewN | apply Kd.R_drew)); exact Kd.R_mono HO_3.out (fun _ hk => trivial)⟩, ⟨by repeat (first | (with_reducible first | exact HB.out | apply below_alloc | apply pw_below_drewN | apply below_drew1 | refine below_set ?_ GE501.out) | exact HB.out)⟩⟩
                                  · rw [if_neg c40] at H
                                    have c40b0 : (((rd_T60 t494 x7_1).f0) == 0) = false := beq_eq_false_iff_ne.mpr c40
                                    have c40b1 : (((rd_T60 t494 x7_1).f0) != 0) = true := bne_iff_ne.mpr c40
                                    have H' := Aside0.mk H
                                    clear H
                                    have hcz46_0 : wc.cell? ⟨gb501, 0, none⟩ = some (.int .i64 ((rd_T60 t494 x7_1).f0)) := (blk_cell BK501.out 0).trans rfl
                                    have hcz46_1 : wc.cell? ⟨gb501, 1, none⟩ = some (.string ((rd_T60 t494 x7_1).f1)) := (blk_cell BK501.out 1).trans rfl
                                    have hcz46_2 : wc.cell? ⟨gb501, 2, none⟩ = some (.int .i64 ((rd_T60 t494 x7_1).f2)) := (blk_cell BK501.out 2).trans rfl
                                    have hcz46_3 : wc.cell? ⟨gb501, 3, none⟩ = some (.int .i64 ((rd_T60 t494 x7_1).f3)) := (blk_cell BK501.out 3).trans rfl
                                    have hfz46_0 := blk_frozen BK501.out 0
                                    have hfz46_1 := blk_frozen BK501.out 1
                                    have hfz46_2 := blk_frozen BK501.out 2
                                    have hfz46_3 := blk_frozen BK501.out 3
                                    go_wp2
                                    go_roundg kj10
                                    case measure => have := HK1.out; have := HJ10.out; omega
                                    case rel => exact ⟨(wrap64 (((rd_T60 t494 x7_1).f3) + (x9_10.size : Int))), (wrap64 (x7_1 + 1)), (by first | rfl | (simp; done) | (simp [*]; done)), (by first | rfl | (simp; done) | (simp [*]; done)), H', ⟨by have := HK1.out; have := HJ10.out; omega⟩, ⟨by (with_reducible repeat (first | apply Kd.R_alloc | apply Kd.R_drewN | apply Kd.R_drew)); exact Kd.R_mono HO_3.out (fun _ hk => trivial)⟩, ⟨by repeat (first | (with_reducible first | exact HB.out | apply below_alloc | apply pw_below_drewN | apply below_drew1 | refine below_set ?_ GE501.out) | exact HB.out)⟩⟩
                            · rw [if_neg c24] at H
                              have c24b0 : ((a0.extract (((rd_T60 t494 x7_1).f3) : Int).toNat ((wrap64 (((rd_T60 t494 x7_1).f3) + (x9_10.size : Int))) : Int).toNat).toList == x9_10.toList) = false := beq_eq_false_iff_ne.mpr c24
                              have c24b1 : ((a0.extract (((rd_T60 t494 x7_1).f3) : Int).toNat ((wrap64 (((rd_T60 t494 x7_1).f3) + (x9_10.size : Int))) : Int).toNat).toList != x9_10.toList) = true := bne_iff_ne.mpr c24
                              exact absurd ((Option.some.inj H).trans HTRUE.out) (by decide)
                          · rw [if_neg c23] at H
                            exact absurd H (by simp)
                        · rw [if_neg c22] at H
                          exact absurd H (by simp)
                      · rw [if_neg c21] at H
                        exact absurd H (by simp)
            · rw [if_neg c10] at H
              exact absurd H (by simp)
          · rw [if_neg c9] at H
            have c9b0 : decide (x7_1 < (t494.length : Int)) = false := decide_eq_false c9
            clear c9
            obtain rfl := Option.some.inj H
            obtain ⟨Ao47, co47, eo47⟩ := Kd.R_slice HO_3.out
            subst eo47
            go_wp2
            go_ret
            exact ⟨by first | rfl | (simp [errW_none, errW_some] <;> rfl) | (simp [*, errW_none, errW_some] <;> rfl), by repeat (first | (with_reducible first | exact HB.out | apply below_alloc | apply pw_below_drewN | apply below_drew1) | exact HB.out)⟩
    · rw [if_neg c6] at H
      have c6b0 : (t499 == 0) = false := beq_eq_false_iff_ne.mpr c6
      have c6b1 : (t499 != 0) = true := bne_iff_ne.mpr c6
      by_cases c48 : (t494.length : Int) = 0
      · rw [if_pos c48] at H
        have c48b0 : ((t494.length : Int) == 0) = true := beq_iff_eq.mpr c48
        have c48b1 : ((t494.length : Int) != 0) = false := bne_eq_false_iff_eq.mpr c48
        clear c48
        by_cases c49 : t495 ≥ 0
        · rw [if_pos c49] at H
          have c49b0 : decide (0 ≤ t495) = true := decide_eq_true c49
          clear c49
          obtain rfl := Option.some.inj H
          go_enter Tryd.func8, Tryd.ntmps8
          go_wp2_with (first | ((with_reducible refine gate_callee (f := 33) rfl ?_); refine goesL_ (some 10) rfl rfl Tryd.func33 (by kernel_rfl) rfl #[] rfl (by (try simp only [List.map_toArray, List.map_cons, List.map_nil]); first | done | rfl | (simp only [List.length_drop, List.length_take]; rfl)) ?_; (with_reducible refine (trammellaw2_awake.calls k  true _ A2.out (HG.out.below HG.out.lt (by repeat (first | (with_reducible first | exact HB.out | apply below_alloc | apply pw_below_drewN | apply below_drew1) | exact HB.out)))).mono ?_); rintro e w50 ⟨rfl, hb⟩; refine ⟨_, rfl, ?_⟩; have n0_ := Aside0.mk (below_step (by repeat (first | (with_reducible first | exact HB.out | apply below_alloc | apply pw_below_drewN | apply below_drew1) | exact HB.out)) hb); clear HB; have HB := n0_; clear n0_; (try clear hb); (try clear hb2); (try clear hk); (try clear hi)) | ((with_reducible refine gate_callee (f := 27) rfl ?_); refine goesL_ (some 14) rfl rfl Tryd.func27 (by kernel_rfl) rfl #[.string a0] rfl (by (try simp only [List.map_toArray, List.map_cons, List.map_nil]); first | done | rfl | (simp only [List.length_drop, List.length_take]; rfl)) ?_; (with_reducible refine (lex_Tokens.calls k a0 t494 t495 t496 _ A4.out (HG.out.below HG.out.lt (by repeat (first | (with_reducible first | exact HB.out | apply below_alloc | apply pw_below_drewN | apply below_drew1) | exact HB.out)))).mono ?_); rintro e w51 ⟨v497, rfl, ho0, hb⟩; refine ⟨_, rfl, ?_⟩; have n0_ := Aside0.mk (Kd.R_lower ho0 (below_size (by repeat (first | (with_reducible first | exact HB.out | apply below_alloc | apply pw_below_drewN | apply below_drew1) | exact HB.out)))); have n1_ := Aside0.mk (below_step (by repeat (first | (with_reducible first | exact HB.out | apply below_alloc | apply pw_below_drewN | apply below_drew1) | exact HB.out)) hb); clear HB; have HO498 := n0_; have HB := n1_; clear n0_ n1_; (try clear hb); (try clear hb2); (try clear hk); (try clear hi); (try clear ho0)) | ((with_reducible refine gate_callee (f := 18) rfl ?_); refine goesL_ (some 19) rfl rfl Tryd.func18 (by kernel_rfl) rfl #[.int .i64 t496] rfl (by (try simp only [List.map_toArray, List.map_cons, List.map_nil]); first | done | rfl | (simp only [List.length_drop, List.length_take]; rfl)) ?_; (with_reducible refine (trammellaw0_Num.calls t496 t499 _ A5.out).mono ?_); rintro e w' ⟨rfl, ⟨nd, rfl⟩⟩; refine ⟨_, rfl, ?_⟩; obtain ⟨Ao52, co52, eo52⟩ := Kd.R_slice HO498.out; subst eo52))
          go_ret
          exact ⟨by first | rfl | (simp [errW_none, errW_some] <;> rfl) | (simp [*, errW_none, errW_some] <;> rfl), by repeat (first | (with_reducible first | exact HB.out | apply below_alloc | apply pw_below_drewN | apply below_drew1) | exact HB.out)⟩
        · rw [if_neg c49] at H
          have c49b0 : decide (0 ≤ t495) = false := decide_eq_false c49
          clear c49
          exact absurd ((Option.some.inj H).trans HTRUE.out) (by decide)
      · rw [if_neg c48] at H
        have c48b0 : ((t494.length : Int) == 0) = false := beq_eq_false_iff_ne.mpr c48
        have c48b1 : ((t494.length : Int) != 0) = true := bne_iff_ne.mpr c48
        have c48b2 : ¬ (t494 = []) := fun h_ => c48 (by rw [h_]; rfl)
        exact absurd ((Option.some.inj H).trans HTRUE.out) (by decide)
  · replace c3 := Bool.eq_false_iff.mpr c3
    subst c3
    have H1 : (some false) = some r := by rw [if_neg (show ¬ (false = true) by decide)] at H; exact H
    clear H
    have H := H1
    clear H1
    exact absurd ((Option.some.inj H).trans HTRUE.out) (by decide)

end Go.Proofs.YtnogfhhfklkbiaaDoor.H

set_option linter.unusedVariables false
set_option linter.unusedSimpArgs false
set_option maxHeartbeats 1000000
namespace Go.Proofs.YtnogfhhfklkbiaaDoor.H
open Go.RowKit Go.Proofs.YtnogfhhfklkbiaaDoorW.PrintWords Go.Proofs.YtnogfhhfklkbiaaDoorW.PrintLast Go.Proofs.YtnogfhhfklkbiaaDoorW.PrintMore
open Go.Proofs.YtnogfhhfklkbiaaDoor.Src

/-- What a token of so many bytes is. -/
def TokIs (t0 : Int) (t1 : ByteArray) (t2 : Int) (w : List UInt8) : Prop :=
  (t0 = 1 ∧ ∃ v : Nat, t2 = (v : Int) ∧ v < 9223372036854775808 ∧ dec v = w) ∨ (t0 = 2 ∧ t1 = ba w ∧ kw w = true) ∨ (t0 = 0 ∧ t1 = ba w ∧ kw w = false) ∨ (t0 = 3 ∧ t1 = ba w)
theorem tokL_desc {l : List UInt8} (h0 : l ≠ []) (h : (tokL l).2.2.2.2.2 = none) : ∃ n : Nat, (tokL l).2.2.2.2.1 = (n : Int) ∧ 1 ≤ n ∧ n ≤ l.length ∧ TokIs (tokL l).1 (tokL l).2.1 (tokL l).2.2.1 (l.take n) := by
  have sg : (sgnL l).2.2.2.2.2 = none → ∃ n : Nat, (sgnL l).2.2.2.2.1 = (n : Int) ∧ 1 ≤ n ∧ n ≤ l.length ∧ TokIs (sgnL l).1 (sgnL l).2.1 (sgnL l).2.2.1 (l.take n) := by
    intro h
    cases l with
    | nil => exact (h0 rfl).elim
    | cons c r =>
      unfold sgnL at h ⊢
      by_cases hs : isSign c = true
      · simp only [hs, if_true] at h ⊢
        by_cases ht : twoS (c :: r) = true
        · simp only [ht, if_true]
          refine ⟨2, rfl, by decide, ?_, .inr (.inr (.inr ⟨rfl, rfl⟩))⟩
          unfold twoS at ht
          rw [Bool.or_eq_true, beq_iff_eq, beq_iff_eq] at ht
          have h3 : ((c :: r).take 2).length = 2 := by rcases ht with ht | ht <;> rw [ht] <;> rfl
          rw [List.length_take] at h3
          omega
        · simp only [ht, Bool.false_eq_true, if_false]
          exact ⟨1, rfl, by decide, by simp, .inr (.inr (.inr ⟨rfl, rfl⟩))⟩
      · simp only [hs, Bool.false_eq_true, if_false] at h
        simp [noTok] at h
  have hwl := tw_le isMore l
  have htw : l.take (l.takeWhile isMore).length = l.takeWhile isMore := (List.prefix_iff_eq_take.1 (List.takeWhile_prefix isMore)).symm
  unfold tokL at h ⊢
  generalize l.takeWhile isMore = w at *
  cases w with
  | nil => exact sg h
  | cons c r =>
    rw [wordL_cons] at h ⊢
    by_cases h95 : c = 95
    · simp only [h95, if_true] at h ⊢
      exact sg h
    · simp only [h95, if_false] at h ⊢
      by_cases hd : isDig c = true
      · simp only [hd, if_true] at h ⊢
        by_cases hn : numOk (c :: r) = true
        · simp only [hn, if_true]
          refine ⟨(c :: r).length, rfl, by simp, hwl, ?_⟩
          rw [htw]
          have hm : numV (c :: r) ≤ 1073741823 := by
            unfold numOk at hn
            rw [Bool.and_eq_true, Bool.and_eq_true] at hn
            exact of_decide_eq_true hn.2.2
          exact .inl ⟨rfl, numV (c :: r), rfl, by omega, num_dec (c :: r) hn (by simp)⟩
        · simp only [hn, Bool.false_eq_true, if_false] at h
          simp [noTok] at h
      · simp only [hd, Bool.false_eq_true, if_false] at h ⊢
        by_cases hk : kw (c :: r) = true
        · simp only [hk, if_true]
          refine ⟨(c :: r).length, rfl, by simp, hwl, ?_⟩
          rw [htw]
          exact .inr (.inl ⟨rfl, rfl, hk⟩)
        · simp only [hk, Bool.false_eq_true, if_false] at h ⊢
          by_cases hm : nm (c :: r) = true
          · simp only [hm, if_true]
            refine ⟨(c :: r).length, rfl, by simp, hwl, ?_⟩
            rw [htw]
            exact .inr (.inr (.inl ⟨rfl, rfl, by simpa using hk⟩))
          · simp only [hm, Bool.false_eq_true, if_false] at h
            simp [noTok] at h
/-- The tokens stand one behind the other, from a place on. -/
def Good (L : List UInt8) : Nat → List S60 → Prop
  | _, [] => True
  | tq, t :: ts => ∃ q n : Nat, t.f3 = (q : Int) ∧ tq ≤ q ∧ q + n ≤ L.length ∧ 1 ≤ n ∧ TokIs t.f0 t.f1 t.f2 ((L.drop q).take n) ∧ Good L (q + n) ts
theorem Good.less {L : List UInt8} {a b : Nat} (h : a ≤ b) : ∀ {ts : List S60}, Good L b ts → Good L a ts
  | [], _ => trivial
  | t :: ts, ⟨q, n, h1, h2, h3⟩ => ⟨q, n, h1, Nat.le_trans h h2, h3⟩
theorem lexL_good (L : List UInt8) : ∀ f p, p ≤ L.length → (lexL f p (L.drop p)).2 = none → Good L p (lexL f p (L.drop p)).1 := by
  intro f
  induction f with
  | zero => intro p hp h; exact trivial
  | succ f ih =>
    intro p hp h
    cases hl : L.drop p with
    | nil => rw [lexL]; exact trivial
    | cons c r =>
      rw [hl] at h
      have hlt : p < L.length := by
        rcases Nat.lt_or_ge p L.length with h' | h'
        · exact h'
        · rw [List.drop_eq_nil_of_le h'] at hl; cases hl
      have hd : ∀ n, (c :: r).drop n = L.drop (p + n) := fun n => by rw [← hl, List.drop_drop]
      have hlen : (c :: r).length = L.length - p := by rw [← hl, List.length_drop]
      have hr : r = L.drop (p + 1) := by have := hd 1; rw [List.drop_one, List.tail_cons] at this; exact this
      rw [lexL] at h ⊢
      by_cases hb : isBlank c = true
      · rw [if_pos hb] at h ⊢
        rw [hr] at h ⊢
        exact (ih (p + 1) (by omega) h).less (by omega)
      · rw [if_neg hb] at h ⊢
        by_cases h35 : c = 35
        · rw [if_pos h35] at h ⊢
          rw [hd] at h ⊢
          have hn2 := cutN_le 10 (c :: r)
          exact (ih _ (by omega) h).less (by omega)
        · rw [if_neg h35] at h ⊢
          have hdesc := tokL_desc (l := c :: r) (by simp)
          unfold consT at h ⊢
          cases he : (tokL (c :: r)).2.2.2.2.2 with
          | some e => rw [he] at h; cases h
          | none =>
            obtain ⟨n, hn, hn1, hn2, ht⟩ := hdesc he
            rw [he, hn, Int.toNat_natCast, hd] at h
            rw [hn, Int.toNat_natCast, hd]
            have ihn := ih (p + n) (by omega)
            cases hx : (lexL f (p + n) (L.drop (p + n))).2 with
            | some e => rw [hx] at h; cases h
            | none =>
              refine ⟨p, n, rfl, Nat.le_refl _, by omega, hn1, ?_, ihn hx⟩
              rw [hl]
              exact ht
theorem tokL_okR {l : List UInt8} (e : Int) (h : (tokL l).2.2.2.2.2 = some e) : e ≠ 0 := by
  have sg : (sgnL l).2.2.2.2.2 = some e → e ≠ 0 := by
    intro h
    unfold sgnL at h
    repeat' split at h
    all_goals (simp [noTok] at h; try omega)
  unfold tokL at h
  generalize l.takeWhile isMore = w at *
  cases w with
  | nil => exact sg h
  | cons c r =>
    rw [wordL_cons] at h
    by_cases h95 : c = 95
    · rw [if_pos h95] at h
      exact sg h
    · rw [if_neg h95] at h
      repeat' split at h
      all_goals (simp [noTok] at h; try omega)
theorem lexL_countR : ∀ f p l, (lexL f p l).1.length ≤ f := by
  intro f
  induction f with
  | zero => intro p l; simp [lexL]
  | succ f ih =>
    intro p l
    cases l with
    | nil => simp [lexL]
    | cons c r =>
      rw [lexL]
      by_cases hb : isBlank c = true
      · rw [if_pos hb]
        have := ih (p + 1) r
        omega
      · rw [if_neg hb]
        by_cases h35 : c = 35
        · rw [if_pos h35]
          have := ih (p + cutN 10 (c :: r)) ((c :: r).drop (cutN 10 (c :: r)))
          omega
        · rw [if_neg h35]
          have := ih (p + (tokL (c :: r)).2.2.2.2.1.toNat) ((c :: r).drop (tokL (c :: r)).2.2.2.2.1.toNat)
          unfold consT
          split
          · simp
          · split
            · simp
            · simp only [List.length_cons]
              omega
theorem extract_any' (s : ByteArray) (i j : Nat) : (s.extract i j).data.toList = (s.data.toList.drop i).take (j - i) := by
  simp
theorem lexL_place (L : List UInt8) : ∀ f p a e, p ≤ L.length → (lexL f p (L.drop p)).2 = some (a, e) → 0 ≤ a ∧ a ≤ L.length ∧ e ≠ 0 := by
  intro f
  induction f with
  | zero => intro p a e hp h; cases h
  | succ f ih =>
    intro p a e hp h
    cases hl : L.drop p with
    | nil => rw [hl, lexL] at h; cases h
    | cons c r =>
      rw [hl] at h
      have hlt : p < L.length := by
        rcases Nat.lt_or_ge p L.length with h' | h'
        · exact h'
        · rw [List.drop_eq_nil_of_le h'] at hl; cases hl
      have hd : ∀ n, (c :: r).drop n = L.drop (p + n) := fun n => by rw [← hl, List.drop_drop]
      have hlen : (c :: r).length = L.length - p := by rw [← hl, List.length_drop]
      have hr : r = L.drop (p + 1) := by have := hd 1; rw [List.drop_one, List.tail_cons] at this; exact this
      rw [lexL] at h
      by_cases hb : isBlank c = true
      · rw [if_pos hb, hr] at h
        exact ih (p + 1) a e (by omega) h
      · rw [if_neg hb] at h
        by_cases h35 : c = 35
        · rw [if_pos h35, hd] at h
          have hn2 := cutN_le 10 (c :: r)
          exact ih _ a e (by omega) h
        · rw [if_neg h35] at h
          have hdesc := tokL_desc (l := c :: r) (by simp)
          unfold consT at h
          cases he : (tokL (c :: r)).2.2.2.2.2 with
          | some e2 =>
            rw [he] at h
            simp only [Option.some.injEq, Prod.mk.injEq] at h
            obtain ⟨rfl, rfl⟩ := h
            refine ⟨by omega, by omega, ?_⟩
            exact tokL_okR e2 he
          | none =>
            obtain ⟨n, hn, hn1, hn2, ht⟩ := hdesc he
            rw [he, hn, Int.toNat_natCast, hd] at h
            cases hx : (lexL f (p + n) (L.drop (p + n))).2 with
            | some e2 =>
              rw [hx] at h
              simp only [Option.some.injEq] at h
              subst h
              exact ih (p + n) a e (by omega) hx
            | none => rw [hx] at h; cases h
theorem lexS_place (s : ByteArray) (a e : Int) (h : (lexS s).2 = some (a, e)) : 0 ≤ a ∧ a ≤ s.size ∧ e ≠ 0 := by
  have hl := list_size s
  unfold lexS at h
  by_cases h4 : 4096 < s.size
  · rw [if_pos h4] at h
    simp only [Option.some.injEq, Prod.mk.injEq] at h
    obtain ⟨rfl, rfl⟩ := h
    exact ⟨by omega, by omega, by decide⟩
  · rw [if_neg h4] at h
    cases hb : bad s 0 with
    | some b =>
      rw [hb] at h
      simp only [Option.some.injEq, Prod.mk.injEq] at h
      obtain ⟨rfl, rfl⟩ := h
      have := bad_some 0 b hb
      exact ⟨by omega, by omega, by decide⟩
    | none =>
      rw [hb] at h
      have := lexL_place s.data.toList s.size 0 a e (Nat.zero_le _) (by rw [List.drop_zero]; exact h)
      omega
theorem rises_loop (s : ByteArray) (hs : s.size ≤ 1000000000000) (at_ : Int) (h0 : at_ = 0) : ∀ (d i k tq : Nat) (ts : List S60), ts.length - i = d → i ≤ ts.length → ts.length ≤ 100000 → Good s.data.toList tq (ts.drop i) → 2 * d + 60 ≤ k →
    trammellaw2_LexRises.l0 k s ts at_ (tq : Int) (i : Int) = some true := by
  have hl := list_size s
  intro d
  induction d with
  | zero =>
    intro i k tq ts hd hi hlen hg hk
    obtain ⟨k, rfl⟩ : ∃ m, k = m + 1 := ⟨k - 1, by omega⟩
    simp only [trammellaw2_LexRises.l0]
    rw [if_neg (by omega), h0]
    rfl
  | succ d ih =>
    intro i k tq ts hd hi hlen hg hk
    obtain ⟨k, rfl⟩ : ∃ m, k = m + 2 := ⟨k - 2, by omega⟩
    have hlt : i < ts.length := by omega
    rw [List.drop_eq_getElem_cons hlt] at hg
    obtain ⟨q, n, h1, h2, h3, h4, h5, h6⟩ := hg
    simp only [trammellaw2_LexRises.l0]
    rw [if_pos (by omega), if_pos (by omega), rdT_at ts i hlt]
    generalize ts[i] = t at *
    have hwl : ((s.data.toList.drop q).take n).length = n := by rw [List.length_take, List.length_drop]; omega
    have hxe : (s.extract q (q + n)).data.toList = (s.data.toList.drop q).take n := by rw [extract_any', show q + n - q = n by omega]
    generalize (s.data.toList.drop q).take n = w at *
    have hz : (ba w).size = n := by rw [ba_size, hwl]
    have next := ih (i + 1) k (q + n) ts (by omega) (by omega) hlen h6 (by omega)
    have fin : ∀ x9 : ByteArray, x9 = ba w → (t.f0 = 2 → kw w = true) → (t.f0 = 0 → kw w = false) →
        trammellaw2_LexRises.j1 (k + 1) s ts at_ (tq : Int) (i : Int) x9 t.f0 t.f1 t.f2 t.f3 = some true := by
      intro x9 hx hk2 hk0
      subst hx
      simp only [trammellaw2_LexRises.j1]
      rw [h1, hz, wrapS (x := (s.size : Int) - (n : Int)) (by omega) (by omega), wrapS (x := (q : Int) + (n : Int)) (by omega) (by omega), show ((q : Int) + (n : Int)) = ((q + n : Nat) : Int) from by omega, if_neg (by omega), if_neg (by omega), if_pos (by omega), if_pos (by omega), if_pos (by omega), Int.toNat_natCast, Int.toNat_natCast, toList_data, toList_data, hxe, ba_list, if_pos (show w = w from rfl), if_neg (by omega)]
      rw [wrapS (by omega) (by omega), show ((i : Int) + 1) = ((i + 1 : Nat) : Int) from by omega, keyword_is (ba w) k (by omega), ba_list, next]
      by_cases g2 : t.f0 = 2
      · rw [if_pos g2, hk2 g2, Option.bind_some, if_pos rfl, if_neg (by omega)]
      · rw [if_neg g2]
        by_cases g0 : t.f0 = 0
        · rw [if_pos g0, hk0 g0, Option.bind_some, if_neg (by decide)]
        · rw [if_neg g0]
    rcases h5 with ⟨e0, v, e2, hv, hdv⟩ | ⟨e0, e1, hk⟩ | ⟨e0, e1, hk⟩ | ⟨e0, e1⟩
    · rw [if_pos e0, e2, decimal_is v hv (k + 1) (by omega), Option.bind_some, ← e2]
      exact fin _ (by rw [hdv]) (fun h => by omega) (fun h => by omega)
    · rw [if_neg (by omega)]
      exact fin _ e1 (fun _ => hk) (fun h => by omega)
    · rw [if_neg (by omega)]
      exact fin _ e1 (fun h => by omega) (fun _ => hk)
    · rw [if_neg (by omega)]
      exact fin _ e1 (fun h => by omega) (fun h => by omega)
theorem LexRises_pure (a0 : ByteArray) (h0 : a0.size ≤ 140737488351232) : ∃ k, trammellaw2_LexRises.f k a0 = some true := by
  refine ⟨2 * a0.size + 300000, ?_⟩
  unfold trammellaw2_LexRises.f
  rw [at_rounds trammellaw2_awake.mono (by omega : 300 ≤ 2 * a0.size + 300000) trammellaw2_awake.is, Option.bind_some, if_pos rfl, tokS_is a0 (by omega) _ (by omega), Option.bind_some]
  simp only [trammellaw0_Num.f, Option.bind_some]
  cases he : (lexS a0).2 with
  | some p =>
    obtain ⟨a, e⟩ := p
    obtain ⟨p1, p2, p3⟩ := lexS_place a0 a e he
    have hts := lexS_err a0 (a, e) he
    have hT : tokS a0 = ([], a, e) := by
      unfold tokS
      rw [he, hts]
      rfl
    rw [hT]
    show (if e = 0 then _ else (if (([] : List S60).length : Int) = 0 then (if a ≥ 0 then (some (decide (a ≤ (a0.size : Int)))) else (some false)) else (some false))) = some true
    rw [if_neg p3, if_pos (by rfl), if_pos p1, decide_eq_true p2]
  | none =>
    have h4 : a0.size ≤ 4096 := by
      rcases Nat.lt_or_ge 4096 a0.size with h | h
      · unfold lexS at he; rw [if_pos h] at he; cases he
      · exact h
    have hb : bad a0 0 = none := by
      cases hb : bad a0 0 with
      | none => rfl
      | some b =>
        unfold lexS at he
        rw [if_neg (by omega), hb] at he
        cases he
    have hS : lexS a0 = lexL a0.size 0 a0.data.toList := by
      unfold lexS
      rw [if_neg (by omega), hb]
    have hT : tokS a0 = ((lexL a0.size 0 a0.data.toList).1, 0, 0) := by
      unfold tokS
      rw [he, hS]
      rfl
    rw [hT]
    rw [hS] at he
    have hg := lexL_good a0.data.toList a0.size 0 (Nat.zero_le _) (by rw [List.drop_zero]; exact he)
    rw [List.drop_zero] at hg
    have hc := lexL_countR a0.size 0 a0.data.toList
    show (if (0 : Int) = 0 then _ else _) = some true
    rw [if_pos rfl]
    have hlen : (lexL a0.size 0 a0.data.toList).1.length ≤ 100000 := by omega
    exact rises_loop a0 (by omega) 0 rfl (lexL a0.size 0 a0.data.toList).1.length 0 _ 0 _ rfl (Nat.zero_le _) hlen (by rw [List.drop_zero]; exact hg) (by omega)
end Go.Proofs.YtnogfhhfklkbiaaDoor.H
