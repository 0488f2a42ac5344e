/- Several texts in one: contracts of functions of the program, and what they lean on. In part written by a program of this session over the kit's print, in part by hand. -/
import Derived.Test.YtnogfhhfklkbiaaDoorL0
import Derived.Test.YtnogfhhfklkbiaaDoorL1
import Derived.Test.YtnogfhhfklkbiaaDoorL3
import Derived.Test.YtnogfhhfklkbiaaDoorYLexes0
import Derived.Test.YtnogfhhfklkbiaaDoorYLexes2
import Derived.Test.YtnogfhhfklkbiaaDoorL6
import Derived.Test.YtnogfhhfklkbiaaDoorL5
namespace Go.Proofs.YtnogfhhfklkbiaaDoor.H
open Go.RowKit Go.Proofs.YtnogfhhfklkbiaaDoorW.PrintWords Go.Proofs.YtnogfhhfklkbiaaDoorW.PrintLast Go.Proofs.YtnogfhhfklkbiaaDoorW.PrintMore
attribute [local go_sem] max2_int min2_int max_two min_two max_three min_three max_four min_four   -- for this text's walks alone
set_option linter.unusedVariables false
set_option linter.unusedSimpArgs false

/-! ### trammellaw2_Lexes: function 7 -/
def trammellaw2_Lexes.j0 : Nat → ByteArray → List (S60) → List (S60) → Bool → Option (Bool)
  | 0, _, _, _, _ => none
  | k + 1, x0, x5, x8, x47 => if x47 = true then (some false) else ((trammellaw0_SpoilTokens.f k x5).bind fun t485 => ((lex_Tokens.f k x0).bind fun bt486 => ((trammellaw0_SameTokens.f k bt486.1 x8).bind fun t491 => (if t491 = true then ((trammellaw2_awake.f k).bind fun t492 => (some t492)) else (some false)))))
def trammellaw2_Lexes.f (k : Nat) (a0 : ByteArray) (a1 : ByteArray) : Option (Bool) := (lex_Tokens.f k a0).bind fun bt471 => ((trammelref1_Tokens.f k a0).bind fun bt476 => ((trammellaw0_SameTokens.f k bt471.1 bt476.1).bind fun t481 => (if t481 = true then (if bt471.2.1 = bt476.2.1 then ((trammellaw0_Num.f bt471.2.2).bind fun t482 => (if t482 = bt476.2.2 then ((lex_Keyword.f k a1).bind fun t483 => ((trammelref1_Keyword.f k a1).bind fun t484 => (trammellaw2_Lexes.j0 k a0 bt471.1 bt476.1 (t483 != t484)))) else (trammellaw2_Lexes.j0 k a0 bt471.1 bt476.1 true))) else (trammellaw2_Lexes.j0 k a0 bt471.1 bt476.1 true)) else (trammellaw2_Lexes.j0 k a0 bt471.1 bt476.1 true))))
theorem trammellaw2_Lexes.mono_l : ∀ k, (∀ y0 y1 y2 y3, LeO (trammellaw2_Lexes.j0 k y0 y1 y2 y3) (trammellaw2_Lexes.j0 (k + 1) y0 y1 y2 y3))
  | 0 => fun _ _ _ _ r h => by simp [trammellaw2_Lexes.j0] at h
  | k + 1 => by
    have ih0 := trammellaw2_Lexes.mono_l k
    · intro y0 y1 y2 y3
      unfold trammellaw2_Lexes.j0
      repeat' first
      | (with_reducible exact ih0 _ _ _ _)
      | (with_reducible exact lex_Keyword.mono _ _)
      | (with_reducible exact lex_Tokens.mono _ _)
      | (with_reducible exact trammellaw0_SameTokens.mono _ _ _)
      | (with_reducible exact trammellaw0_SpoilTokens.mono _ _)
      | (with_reducible exact trammellaw2_awake.mono _)
      | (with_reducible exact trammelref1_Keyword.mono _ _)
      | (with_reducible exact trammelref1_Tokens.mono _ _)
      | (with_reducible exact LeO.refl _)
      | (with_reducible exact LeO.none _)
      | (with_reducible refine LeO.ite ?_ ?_)
      | (with_reducible refine LeO.bind ?_ (fun _ => ?_))
      | exact ih0 _ _ _ _
      | exact lex_Keyword.mono _ _
      | exact lex_Tokens.mono _ _
      | exact trammellaw0_SameTokens.mono _ _ _
      | exact trammellaw0_SpoilTokens.mono _ _
      | exact trammellaw2_awake.mono _
      | exact trammelref1_Keyword.mono _ _
      | exact trammelref1_Tokens.mono _ _
      | exact LeO.none _
      | refine LeO.ite ?_ ?_
      | refine LeO.bind ?_ (fun _ => ?_)
theorem trammellaw2_Lexes.mono : ∀ a0 a1 k, LeO (trammellaw2_Lexes.f k a0 a1) (trammellaw2_Lexes.f (k + 1) a0 a1) := by
  intro a0 a1 k
  have ih0 := trammellaw2_Lexes.mono_l k
  unfold trammellaw2_Lexes.f
  repeat' first
      | (with_reducible exact ih0 _ _ _ _)
      | (with_reducible exact lex_Keyword.mono _ _)
      | (with_reducible exact lex_Tokens.mono _ _)
      | (with_reducible exact trammellaw0_SameTokens.mono _ _ _)
      | (with_reducible exact trammellaw0_SpoilTokens.mono _ _)
      | (with_reducible exact trammellaw2_awake.mono _)
      | (with_reducible exact trammelref1_Keyword.mono _ _)
      | (with_reducible exact trammelref1_Tokens.mono _ _)
      | (with_reducible exact LeO.refl _)
      | (with_reducible exact LeO.none _)
      | (with_reducible refine LeO.ite ?_ ?_)
      | (with_reducible refine LeO.bind ?_ (fun _ => ?_))
      | exact ih0 _ _ _ _
      | exact lex_Keyword.mono _ _
      | exact lex_Tokens.mono _ _
      | exact trammellaw0_SameTokens.mono _ _ _
      | exact trammellaw0_SpoilTokens.mono _ _
      | exact trammellaw2_awake.mono _
      | exact trammelref1_Keyword.mono _ _
      | exact trammelref1_Tokens.mono _ _
      | exact LeO.none _
      | refine LeO.ite ?_ ?_
      | refine LeO.bind ?_ (fun _ => ?_)
set_option maxHeartbeats 8000000 in
set_option maxRecDepth 100000 in
theorem trammellaw2_Lexes.callsT (k : Nat) (a0 : ByteArray) (a1 : ByteArray) (r : Bool) (w : World) (htrue : r = true) (h : trammellaw2_Lexes.f k a0 a1 = some r) (hG : Err.ErrTy w) :
    Calls Tryd.prog 7 #[.string a0, .string a1] w fun e w' => e = .returned (.bool r) ∧ Below w.heap.size w w' := by
  have HG := Aside0.mk hG
  clear hG
  have HTRUE := Aside0.mk htrue
  clear htrue
  have HB := Aside0.mk (Below.refl w.heap.size w)
  have H : ((lex_Tokens.f k a0).bind fun bt471 => ((trammelref1_Tokens.f k a0).bind fun bt476 => ((trammellaw0_SameTokens.f k bt471.1 bt476.1).bind fun t481 => (if t481 = true then (if bt471.2.1 = bt476.2.1 then ((trammellaw0_Num.f bt471.2.2).bind fun t482 => (if t482 = bt476.2.2 then ((lex_Keyword.f k a1).bind fun t483 => ((trammelref1_Keyword.f k a1).bind fun t484 => (trammellaw2_Lexes.j0 k a0 bt471.1 bt476.1 (t483 != t484)))) else (trammellaw2_Lexes.j0 k a0 bt471.1 bt476.1 true))) else (trammellaw2_Lexes.j0 k a0 bt471.1 bt476.1 true)) else (trammellaw2_Lexes.j0 k a0 bt471.1 bt476.1 true))))) = some r := h
  clear h
  replace H := Option.bind_eq_some_iff.mp H
  obtain ⟨⟨t471, t472, t473⟩, A30, H⟩ := H
  replace H : ((trammelref1_Tokens.f k a0).bind fun bt476 => ((trammellaw0_SameTokens.f k t471 bt476.1).bind fun t481 => (if t481 = true then (if t472 = bt476.2.1 then ((trammellaw0_Num.f t473).bind fun t482 => (if t482 = bt476.2.2 then ((lex_Keyword.f k a1).bind fun t483 => ((trammelref1_Keyword.f k a1).bind fun t484 => (trammellaw2_Lexes.j0 k a0 t471 bt476.1 (t483 != t484)))) else (trammellaw2_Lexes.j0 k a0 t471 bt476.1 true))) else (trammellaw2_Lexes.j0 k a0 t471 bt476.1 true)) else (trammellaw2_Lexes.j0 k a0 t471 bt476.1 true)))) = some r := H
  have A3 := Aside0.mk A30
  clear A30
  replace H := Option.bind_eq_some_iff.mp H
  obtain ⟨⟨t476, t477, t478⟩, A40, H⟩ := H
  replace H : ((trammellaw0_SameTokens.f k t471 t476).bind fun t481 => (if t481 = true then (if t472 = t477 then ((trammellaw0_Num.f t473).bind fun t482 => (if t482 = t478 then ((lex_Keyword.f k a1).bind fun t483 => ((trammelref1_Keyword.f k a1).bind fun t484 => (trammellaw2_Lexes.j0 k a0 t471 t476 (t483 != t484)))) else (trammellaw2_Lexes.j0 k a0 t471 t476 true))) else (trammellaw2_Lexes.j0 k a0 t471 t476 true)) else (trammellaw2_Lexes.j0 k a0 t471 t476 true))) = some r := H
  have A4 := Aside0.mk A40
  clear A40
  have HC5 := Aside0.mk H
  clear H
  go_enter Tryd.func7, Tryd.ntmps7
  go_upto_region 3 with (first | ((with_reducible refine gate_callee (f := 27) rfl ?_); refine goesL_ (some 16) rfl rfl Tryd.func27 (by kernel_rfl) rfl #[.string a0] rfl (by (try simp only [List.map_toArray, List.map_cons, List.map_nil]); first | done | rfl | (simp only [List.length_drop, List.length_take]; rfl)) ?_; (with_reducible refine (lex_Tokens.calls k a0 t471 t472 t473 _ A3.out (HG.out.below HG.out.lt (by repeat (first | (with_reducible first | exact HB.out | apply below_alloc | apply pw_below_drewN | apply below_drew1) | exact HB.out)))).mono ?_); rintro e w6 ⟨v474, rfl, ho0, hb⟩; refine ⟨_, rfl, ?_⟩; have n0_ := Aside0.mk (Kd.R_lower ho0 (below_size (by repeat (first | (with_reducible first | exact HB.out | apply below_alloc | apply pw_below_drewN | apply below_drew1) | exact HB.out)))); have n1_ := Aside0.mk (below_step (by repeat (first | (with_reducible first | exact HB.out | apply below_alloc | apply pw_below_drewN | apply below_drew1) | exact HB.out)) hb); clear HB; have HO475 := n0_; have HB := n1_; clear n0_ n1_; (try clear hb); (try clear hb2); (try clear hk); (try clear hi); (try clear ho0)) | ((with_reducible refine gate_callee (f := 28) rfl ?_); refine goesL_ (some 22) rfl rfl Tryd.func28 (by kernel_rfl) rfl #[.string a0] rfl (by (try simp only [List.map_toArray, List.map_cons, List.map_nil]); first | done | rfl | (simp only [List.length_drop, List.length_take]; rfl)) ?_; (with_reducible refine (trammelref1_Tokens.calls k a0 t476 t477 t478 _ A4.out).mono ?_); rintro e w7 ⟨v479, rfl, ho0, hb⟩; refine ⟨_, rfl, ?_⟩; have n0_ := Aside0.mk (Kd.R_elder' (by (with_reducible repeat (first | apply Kd.R_alloc | apply Kd.R_drewN | apply Kd.R_drew)); exact HO475.out) (Kd.R_base ho0) hb); have n1_ := Aside0.mk (Kd.R_lower (Kd.R_new' ho0 (Kd.R_lt (by (with_reducible repeat (first | apply Kd.R_alloc | apply Kd.R_drewN | apply Kd.R_drew)); exact HO475.out))) (below_size (by repeat (first | (with_reducible first | exact HB.out | apply below_alloc | apply pw_below_drewN | apply below_drew1) | exact HB.out)))); have n2_ := Aside0.mk (below_step (by repeat (first | (with_reducible first | exact HB.out | apply below_alloc | apply pw_below_drewN | apply below_drew1) | exact HB.out)) hb); clear HO475; clear HB; have HO475 := n0_; have HO480 := n1_; have HB := n2_; clear n0_ n1_ n2_; (try clear hb); (try clear hb2); (try clear hk); (try clear hi); (try clear ho0)))
  (try simp only [Act.put, List.setIfInBounds_toArray, List.set_cons_zero, List.set_cons_succ])
  go_cut [47] (fun v47 wc => ∃ (kq : Nat) (x47_4 : Bool), v47 = .bool x47_4 ∧ Aside0 (trammellaw2_Lexes.j0 kq a0 t471 t476 x47_4 = some r) ∧ Aside0 (kq ≤ k) ∧ Aside0 (Kd.R k60 60 wc w.heap.size (fun k_ => some k_ ≠ (v479 : Value).ownBlock) v474 t471) ∧ Aside0 (Kd.R k60 60 wc w.heap.size (fun k_ => some k_ ≠ (v474 : Value).ownBlock) v479 t476) ∧ Aside0 (Below w.heap.size w wc))
  case first =>
    have H := HC5.out
    clear HC5
    replace H := Option.bind_eq_some_iff.mp H
    obtain ⟨t481, A80, H⟩ := H
    replace H : (if t481 = true then (if t472 = t477 then ((trammellaw0_Num.f t473).bind fun t482 => (if t482 = t478 then ((lex_Keyword.f k a1).bind fun t483 => ((trammelref1_Keyword.f k a1).bind fun t484 => (trammellaw2_Lexes.j0 k a0 t471 t476 (t483 != t484)))) else (trammellaw2_Lexes.j0 k a0 t471 t476 true))) else (trammellaw2_Lexes.j0 k a0 t471 t476 true)) else (trammellaw2_Lexes.j0 k a0 t471 t476 true)) = some r := H
    have A8 := Aside0.mk A80
    clear A80
    by_cases c9 : t481 = true
    · subst c9
      have H1 : (if t472 = t477 then ((trammellaw0_Num.f t473).bind fun t482 => (if t482 = t478 then ((lex_Keyword.f k a1).bind fun t483 => ((trammelref1_Keyword.f k a1).bind fun t484 => (trammellaw2_Lexes.j0 k a0 t471 t476 (t483 != t484)))) else (trammellaw2_Lexes.j0 k a0 t471 t476 true))) else (trammellaw2_Lexes.j0 k a0 t471 t476 true)) = some r := by rw [if_pos rfl] at H; exact H
      clear H
      have H := H1
      clear H1
      by_cases c10 : t472 = t477
      · rw [if_pos c10] at H
        have c10b0 : (t472 == t477) = true := beq_iff_eq.mpr c10
        have c10b1 : (t472 != t477) = false := bne_eq_false_iff_eq.mpr c10
        clear c10
        (first | rw [c10b0] | (simp only [i64_w, i32_w]; rw [c10b0]) | skip)
        replace H := Option.bind_eq_some_iff.mp H
        obtain ⟨t482, A110, H⟩ := H
        replace H : (if t482 = t478 then ((lex_Keyword.f k a1).bind fun t483 => ((trammelref1_Keyword.f k a1).bind fun t484 => (trammellaw2_Lexes.j0 k a0 t471 t476 (t483 != t484)))) else (trammellaw2_Lexes.j0 k a0 t471 t476 true)) = some r := H
        have A11 := Aside0.mk A110
        clear A110
        by_cases c12 : t482 = t478
        · rw [if_pos c12] at H
          have c12b0 : (t482 == t478) = true := beq_iff_eq.mpr c12
          have c12b1 : (t482 != t478) = false := bne_eq_false_iff_eq.mpr c12
          clear c12
          replace H := Option.bind_eq_some_iff.mp H
          obtain ⟨t483, A130, H⟩ := H
          replace H : ((trammelref1_Keyword.f k a1).bind fun t484 => (trammellaw2_Lexes.j0 k a0 t471 t476 (t483 != t484))) = some r := H
          have A13 := Aside0.mk A130
          clear A130
          replace H := Option.bind_eq_some_iff.mp H
          obtain ⟨t484, A140, H⟩ := H
          replace H : (trammellaw2_Lexes.j0 k a0 t471 t476 (t483 != t484)) = some r := H
          have A14 := Aside0.mk A140
          clear A140
          have H' := Aside0.mk H
          clear H
          obtain ⟨Ao15, co15, eo15⟩ := Kd.R_slice HO475.out
          subst eo15
          obtain ⟨Ao16, co16, eo16⟩ := Kd.R_slice HO480.out
          subst eo16
          go_wp2_with (first | ((with_reducible refine gate_callee (f := 29) rfl ?_); refine goesL_ (some 28) rfl rfl Tryd.func29 (by kernel_rfl) rfl #[.slice Ao15 t471.length co15, .slice Ao16 t476.length co16] rfl (by (try simp only [List.map_toArray, List.map_cons, List.map_nil]); first | done | rfl | (simp only [List.length_drop, List.length_take]; rfl)) ?_; (with_reducible refine (trammellaw0_SameTokens.calls k _ _ t471 _ _ t476 true _ ?side1 ?side2 ?side3 ?side4 A8.out).mono ?_); (case side1 => repeat (first | exact (Kd.R_reads' HO475.out).2.2 | (with_reducible refine Kd.C_alloc ?_ _) | (with_reducible refine Kd.C_drewN ?_ _) | (with_reducible refine Kd.C_drew ?_))); (case side2 => exact (Kd.R_reads' HO475.out).2.1); (case side3 => repeat (first | exact (Kd.R_reads' HO480.out).2.2 | (with_reducible refine Kd.C_alloc ?_ _) | (with_reducible refine Kd.C_drewN ?_ _) | (with_reducible refine Kd.C_drew ?_))); (case side4 => exact (Kd.R_reads' HO480.out).2.1); rintro e w' ⟨rfl, ⟨nd, rfl⟩⟩; refine ⟨_, rfl, ?_⟩) | (go_at_call 18; (with_reducible refine (trammellaw0_Num.calls t473 t482 _ A11.out).mono ?_); rintro e w' ⟨rfl, ⟨nd, rfl⟩⟩) | (go_at_call 30; (with_reducible refine (lex_Keyword.calls k a1 t483 _ A13.out).mono ?_); rintro e w17 ⟨rfl, hb⟩; have n0_ := Aside0.mk (Kd.R_below (by (with_reducible repeat (first | apply Kd.R_alloc | apply Kd.R_drewN | apply Kd.R_drew)); exact HO475.out) hb); have n1_ := Aside0.mk (Kd.R_below (by (with_reducible repeat (first | apply Kd.R_alloc | apply Kd.R_drewN | apply Kd.R_drew)); exact HO480.out) hb); have n2_ := Aside0.mk (below_step (by repeat (first | (with_reducible first | exact HB.out | apply below_alloc | apply pw_below_drewN | apply below_drew1) | exact HB.out)) hb); clear HO475; clear HO480; clear HB; have HO475 := n0_; have HO480 := n1_; have HB := n2_; clear n0_ n1_ n2_; (try clear hb); (try clear hb2); (try clear hk); (try clear hi)) | (go_at_call 31; (with_reducible refine (trammelref1_Keyword.calls k a1 t484 _ A14.out).mono ?_); rintro e w' ⟨rfl, ⟨nd, rfl⟩⟩))
          go_meet
          case rel => exact ⟨_, ((t483 != t484)), (by first | rfl | (simp; done) | (simp [*]; done)), H', ⟨by first | omega | exact Nat.le_refl _⟩, ⟨by (with_reducible repeat (first | apply Kd.R_alloc | apply Kd.R_drewN | apply Kd.R_drew)); exact Kd.R_mono HO475.out (fun _ hk => hk.2)⟩, ⟨by (with_reducible repeat (first | apply Kd.R_alloc | apply Kd.R_drewN | apply Kd.R_drew)); exact Kd.R_mono HO480.out (fun _ hk => hk.2)⟩, ⟨by repeat (first | (with_reducible first | exact HB.out | apply below_alloc | apply pw_below_drewN | apply below_drew1) | exact HB.out)⟩⟩
        · rw [if_neg c12] at H
          have c12b0 : (t482 == t478) = false := beq_eq_false_iff_ne.mpr c12
          have c12b1 : (t482 != t478) = true := bne_iff_ne.mpr c12
          have H' := Aside0.mk H
          clear H
          obtain ⟨Ao18, co18, eo18⟩ := Kd.R_slice HO475.out
          subst eo18
          obtain ⟨Ao19, co19, eo19⟩ := Kd.R_slice HO480.out
          subst eo19
          go_wp2_with (first | ((with_reducible refine gate_callee (f := 29) rfl ?_); refine goesL_ (some 28) rfl rfl Tryd.func29 (by kernel_rfl) rfl #[.slice Ao18 t471.length co18, .slice Ao19 t476.length co19] rfl (by (try simp only [List.map_toArray, List.map_cons, List.map_nil]); first | done | rfl | (simp only [List.length_drop, List.length_take]; rfl)) ?_; (with_reducible refine (trammellaw0_SameTokens.calls k _ _ t471 _ _ t476 true _ ?side1 ?side2 ?side3 ?side4 A8.out).mono ?_); (case side1 => repeat (first | exact (Kd.R_reads' HO475.out).2.2 | (with_reducible refine Kd.C_alloc ?_ _) | (with_reducible refine Kd.C_drewN ?_ _) | (with_reducible refine Kd.C_drew ?_))); (case side2 => exact (Kd.R_reads' HO475.out).2.1); (case side3 => repeat (first | exact (Kd.R_reads' HO480.out).2.2 | (with_reducible refine Kd.C_alloc ?_ _) | (with_reducible refine Kd.C_drewN ?_ _) | (with_reducible refine Kd.C_drew ?_))); (case side4 => exact (Kd.R_reads' HO480.out).2.1); rintro e w' ⟨rfl, ⟨nd, rfl⟩⟩; refine ⟨_, rfl, ?_⟩) | (go_at_call 18; (with_reducible refine (trammellaw0_Num.calls t473 t482 _ A11.out).mono ?_); rintro e w' ⟨rfl, ⟨nd, rfl⟩⟩))
          go_meet
          case rel => exact ⟨_, (true), (by first | rfl | (simp; done) | (simp [*]; done)), H', ⟨by first | omega | exact Nat.le_refl _⟩, ⟨by (with_reducible repeat (first | apply Kd.R_alloc | apply Kd.R_drewN | apply Kd.R_drew)); exact Kd.R_mono HO475.out (fun _ hk => hk.2)⟩, ⟨by (with_reducible repeat (first | apply Kd.R_alloc | apply Kd.R_drewN | apply Kd.R_drew)); exact Kd.R_mono HO480.out (fun _ hk => hk.2)⟩, ⟨by repeat (first | (with_reducible first | exact HB.out | apply below_alloc | apply pw_below_drewN | apply below_drew1) | exact HB.out)⟩⟩
      · rw [if_neg c10] at H
        have c10b0 : (t472 == t477) = false := beq_eq_false_iff_ne.mpr c10
        have c10b1 : (t472 != t477) = true := bne_iff_ne.mpr c10
        (first | rw [c10b0] | (simp only [i64_w, i32_w]; rw [c10b0]) | skip)
        have H' := Aside0.mk H
        clear H
        obtain ⟨Ao20, co20, eo20⟩ := Kd.R_slice HO475.out
        subst eo20
        obtain ⟨Ao21, co21, eo21⟩ := Kd.R_slice HO480.out
        subst eo21
        go_wp2_with (first | ((with_reducible refine gate_callee (f := 29) rfl ?_); refine goesL_ (some 28) rfl rfl Tryd.func29 (by kernel_rfl) rfl #[.slice Ao20 t471.length co20, .slice Ao21 t476.length co21] rfl (by (try simp only [List.map_toArray, List.map_cons, List.map_nil]); first | done | rfl | (simp only [List.length_drop, List.length_take]; rfl)) ?_; (with_reducible refine (trammellaw0_SameTokens.calls k _ _ t471 _ _ t476 true _ ?side1 ?side2 ?side3 ?side4 A8.out).mono ?_); (case side1 => repeat (first | exact (Kd.R_reads' HO475.out).2.2 | (with_reducible refine Kd.C_alloc ?_ _) | (with_reducible refine Kd.C_drewN ?_ _) | (with_reducible refine Kd.C_drew ?_))); (case side2 => exact (Kd.R_reads' HO475.out).2.1); (case side3 => repeat (first | exact (Kd.R_reads' HO480.out).2.2 | (with_reducible refine Kd.C_alloc ?_ _) | (with_reducible refine Kd.C_drewN ?_ _) | (with_reducible refine Kd.C_drew ?_))); (case side4 => exact (Kd.R_reads' HO480.out).2.1); rintro e w' ⟨rfl, ⟨nd, rfl⟩⟩; refine ⟨_, rfl, ?_⟩))
        go_meet
        case rel => exact ⟨_, (true), (by first | rfl | (simp; done) | (simp [*]; done)), H', ⟨by first | omega | exact Nat.le_refl _⟩, ⟨by (with_reducible repeat (first | apply Kd.R_alloc | apply Kd.R_drewN | apply Kd.R_drew)); exact Kd.R_mono HO475.out (fun _ hk => hk.2)⟩, ⟨by (with_reducible repeat (first | apply Kd.R_alloc | apply Kd.R_drewN | apply Kd.R_drew)); exact Kd.R_mono HO480.out (fun _ hk => hk.2)⟩, ⟨by repeat (first | (with_reducible first | exact HB.out | apply below_alloc | apply pw_below_drewN | apply below_drew1) | exact HB.out)⟩⟩
    · replace c9 := Bool.eq_false_iff.mpr c9
      subst c9
      have H1 : (trammellaw2_Lexes.j0 k a0 t471 t476 true) = some r := by rw [if_neg (show ¬ (false = true) by decide)] at H; exact H
      clear H
      have H := H1
      clear H1
      have H' := Aside0.mk H
      clear H
      obtain ⟨Ao22, co22, eo22⟩ := Kd.R_slice HO475.out
      subst eo22
      obtain ⟨Ao23, co23, eo23⟩ := Kd.R_slice HO480.out
      subst eo23
      go_wp2_with (first | ((with_reducible refine gate_callee (f := 29) rfl ?_); refine goesL_ (some 28) rfl rfl Tryd.func29 (by kernel_rfl) rfl #[.slice Ao22 t471.length co22, .slice Ao23 t476.length co23] rfl (by (try simp only [List.map_toArray, List.map_cons, List.map_nil]); first | done | rfl | (simp only [List.length_drop, List.length_take]; rfl)) ?_; (with_reducible refine (trammellaw0_SameTokens.calls k _ _ t471 _ _ t476 false _ ?side1 ?side2 ?side3 ?side4 A8.out).mono ?_); (case side1 => repeat (first | exact (Kd.R_reads' HO475.out).2.2 | (with_reducible refine Kd.C_alloc ?_ _) | (with_reducible refine Kd.C_drewN ?_ _) | (with_reducible refine Kd.C_drew ?_))); (case side2 => exact (Kd.R_reads' HO475.out).2.1); (case side3 => repeat (first | exact (Kd.R_reads' HO480.out).2.2 | (with_reducible refine Kd.C_alloc ?_ _) | (with_reducible refine Kd.C_drewN ?_ _) | (with_reducible refine Kd.C_drew ?_))); (case side4 => exact (Kd.R_reads' HO480.out).2.1); rintro e w' ⟨rfl, ⟨nd, rfl⟩⟩; refine ⟨_, rfl, ?_⟩))
      go_meet
      case rel => exact ⟨_, (true), (by first | rfl | (simp; done) | (simp [*]; done)), H', ⟨by first | omega | exact Nat.le_refl _⟩, ⟨by (with_reducible repeat (first | apply Kd.R_alloc | apply Kd.R_drewN | apply Kd.R_drew)); exact Kd.R_mono HO475.out (fun _ hk => hk.2)⟩, ⟨by (with_reducible repeat (first | apply Kd.R_alloc | apply Kd.R_drewN | apply Kd.R_drew)); exact Kd.R_mono HO480.out (fun _ hk => hk.2)⟩, ⟨by repeat (first | (with_reducible first | exact HB.out | apply below_alloc | apply pw_below_drewN | apply below_drew1) | exact HB.out)⟩⟩
  case rest =>
    clear HC5
    try clear c1
    try clear c2
    try clear p2
    try clear c7
    try clear c9
    try clear c10
    try clear c10b0
    try clear c10b1
    try clear c12
    try clear c12b0
    try clear c12b1
    obtain ⟨kq, x47_4, rfl, HA, HJ4, HO_5, HO_8, HB⟩ := hcut
    cases kq with
    | zero => exact absurd HA.out (by simp [trammellaw2_Lexes.j0])
    | succ kj4 =>
      have H := HA.out
      clear HA
      simp only [trammellaw2_Lexes.j0] at H
      by_cases c24 : x47_4 = true
      · subst c24
        have H1 : (some false) = some r := by rw [if_pos rfl] at H; exact H
        clear H
        have H := H1
        clear H1
        exact absurd ((Option.some.inj H).trans HTRUE.out) (by decide)
      · replace c24 := Bool.eq_false_iff.mpr c24
        subst c24
        have H1 : ((trammellaw0_SpoilTokens.f kj4 t471).bind fun t485 => ((lex_Tokens.f kj4 a0).bind fun bt486 => ((trammellaw0_SameTokens.f kj4 bt486.1 t476).bind fun t491 => (if t491 = true then ((trammellaw2_awake.f kj4).bind fun t492 => (some t492)) else (some false))))) = some r := by rw [if_neg (show ¬ (false = true) by decide)] at H; exact H
        clear H
        have H := H1
        clear H1
        replace H := Option.bind_eq_some_iff.mp H
        obtain ⟨t485, A250, H⟩ := H
        replace H : ((lex_Tokens.f kj4 a0).bind fun bt486 => ((trammellaw0_SameTokens.f kj4 bt486.1 t476).bind fun t491 => (if t491 = true then ((trammellaw2_awake.f kj4).bind fun t492 => (some t492)) else (some false)))) = some r := H
        have A25 := Aside0.mk A250
        clear A250
        replace H := Option.bind_eq_some_iff.mp H
        obtain ⟨⟨t486, t487, t488⟩, A260, H⟩ := H
        replace H : ((trammellaw0_SameTokens.f kj4 t486 t476).bind fun t491 => (if t491 = true then ((trammellaw2_awake.f kj4).bind fun t492 => (some t492)) else (some false))) = some r := H
        have A26 := Aside0.mk A260
        clear A260
        replace H := Option.bind_eq_some_iff.mp H
        obtain ⟨t491, A270, H⟩ := H
        replace H : (if t491 = true then ((trammellaw2_awake.f kj4).bind fun t492 => (some t492)) else (some false)) = some r := H
        have A27 := Aside0.mk A270
        clear A270
        by_cases c28 : t491 = true
        · subst c28
          have H1 : ((trammellaw2_awake.f kj4).bind fun t492 => (some t492)) = some r := by rw [if_pos rfl] at H; exact H
          clear H
          have H := H1
          clear H1
          replace H := Option.bind_eq_some_iff.mp H
          obtain ⟨t492, A290, H⟩ := H
          replace H : (some t492) = some r := H
          have A29 := Aside0.mk A290
          clear A290
          obtain rfl := Option.some.inj H
          obtain ⟨Ao30, co30, eo30⟩ := Kd.R_slice HO_5.out
          subst eo30
          go_wp2_with (first | ((with_reducible refine gate_callee (f := 32) rfl ?_); refine goesL_ (some 49) rfl rfl Tryd.func32 (by kernel_rfl) rfl #[.slice Ao30 t471.length co30] rfl (by (try simp only [List.map_toArray, List.map_cons, List.map_nil]); first | done | rfl | (simp only [List.length_drop, List.length_take]; rfl)) ?_; (with_reducible refine (trammellaw0_SpoilTokens.calls kj4 (fun k_ => some k_ = (.slice Ao30 t471.length co30 : Value).ownBlock) (.slice Ao30 t471.length co30) t471 t485 w _ ?side1 ?side2 A25.out).mono ?_); (case side1 => repeat (first | (with_reducible first | exact HB.out | apply below_alloc | apply pw_below_drewN | apply below_drew1) | exact HB.out)); (case side2 => exact Kd.R_tight rfl HO_5.out); rintro e w31 ⟨rfl, hy0, hb, hkp⟩; refine ⟨_, rfl, ?_⟩; have n0_ := Aside0.mk (Kd.R_reok rfl hy0 (fun k_ e_ => HO_5.out.1 k_ e_)); have n1_ := Aside0.mk (Kd.R_mono (ok' := fun k_ => some k_ ≠ (.slice Ao30 t471.length co30 : Value).ownBlock) (Kd.R_keptB (HO_8.out) hkp (fun k_ hk_ hs_ => (hk_) hs_)) (fun k_ hk_ => hk_.1)); have n2_ := Aside0.mk (hb); clear HO_5; clear HO_8; clear HB; have HO_5 := n0_; have HO_8 := n1_; have HB := n2_; clear n0_ n1_ n2_; (try clear hb); (try clear hkp); (try clear hy0)) | ((with_reducible refine gate_callee (f := 27) rfl ?_); refine goesL_ (some 52) rfl rfl Tryd.func27 (by kernel_rfl) rfl #[.string a0] rfl (by (try simp only [List.map_toArray, List.map_cons, List.map_nil]); first | done | rfl | (simp only [List.length_drop, List.length_take]; rfl)) ?_; (with_reducible refine (lex_Tokens.calls kj4 a0 t486 t487 t488 _ A26.out (HG.out.below HG.out.lt (by repeat (first | (with_reducible first | exact HB.out | apply below_alloc | apply pw_below_drewN | apply below_drew1) | exact HB.out)))).mono ?_); rintro e w32 ⟨v489, rfl, ho0, hb⟩; refine ⟨_, rfl, ?_⟩; have n0_ := Aside0.mk (Kd.R_elder' (by (with_reducible repeat (first | apply Kd.R_alloc | apply Kd.R_drewN | apply Kd.R_drew)); exact HO_5.out) (Kd.R_base ho0) hb); have n1_ := Aside0.mk (Kd.R_elder' (by (with_reducible repeat (first | apply Kd.R_alloc | apply Kd.R_drewN | apply Kd.R_drew)); exact HO_8.out) (Kd.R_base ho0) hb); have n2_ := Aside0.mk (Kd.R_lower (Kd.R_new' (Kd.R_new' ho0 (Kd.R_lt (by (with_reducible repeat (first | apply Kd.R_alloc | apply Kd.R_drewN | apply Kd.R_drew)); exact HO_5.out))) (Kd.R_lt (by (with_reducible repeat (first | apply Kd.R_alloc | apply Kd.R_drewN | apply Kd.R_drew)); exact HO_8.out))) (below_size (by repeat (first | (with_reducible first | exact HB.out | apply below_alloc | apply pw_below_drewN | apply below_drew1) | exact HB.out)))); have n3_ := Aside0.mk (below_step (by repeat (first | (with_reducible first | exact HB.out | apply below_alloc | apply pw_below_drewN | apply below_drew1) | exact HB.out)) hb); clear HO_5; clear HO_8; clear HB; have HO_5 := n0_; have HO_8 := n1_; have HO490 := n2_; have HB := n3_; clear n0_ n1_ n2_ n3_; (try clear hb); (try clear hb2); (try clear hk); (try clear hi); (try clear ho0); obtain ⟨Ao33, co33, eo33⟩ := Kd.R_slice HO490.out; subst eo33; obtain ⟨Ao34, co34, eo34⟩ := Kd.R_slice HO_8.out; subst eo34) | ((with_reducible refine gate_callee (f := 29) rfl ?_); refine goesL_ (some 58) rfl rfl Tryd.func29 (by kernel_rfl) rfl #[.slice Ao33 t486.length co33, .slice Ao34 t476.length co34] rfl (by (try simp only [List.map_toArray, List.map_cons, List.map_nil]); first | done | rfl | (simp only [List.length_drop, List.length_take]; rfl)) ?_; (with_reducible refine (trammellaw0_SameTokens.calls kj4 _ _ t486 _ _ t476 true _ ?side1 ?side2 ?side3 ?side4 A27.out).mono ?_); (case side1 => repeat (first | exact (Kd.R_reads' HO490.out).2.2 | (with_reducible refine Kd.C_alloc ?_ _) | (with_reducible refine Kd.C_drewN ?_ _) | (with_reducible refine Kd.C_drew ?_))); (case side2 => exact (Kd.R_reads' HO490.out).2.1); (case side3 => repeat (first | exact (Kd.R_reads' HO_8.out).2.2 | (with_reducible refine Kd.C_alloc ?_ _) | (with_reducible refine Kd.C_drewN ?_ _) | (with_reducible refine Kd.C_drew ?_))); (case side4 => exact (Kd.R_reads' HO_8.out).2.1); rintro e w' ⟨rfl, ⟨nd, rfl⟩⟩; refine ⟨_, rfl, ?_⟩) | (go_at_call 33; (with_reducible refine (trammellaw2_awake.calls kj4  t492 _ A29.out (HG.out.below HG.out.lt (by repeat (first | (with_reducible first | exact HB.out | apply below_alloc | apply pw_below_drewN | apply below_drew1) | exact HB.out)))).mono ?_); rintro e w35 ⟨rfl, hb⟩; have n0_ := Aside0.mk (Kd.R_below (by (with_reducible repeat (first | apply Kd.R_alloc | apply Kd.R_drewN | apply Kd.R_drew)); exact HO_5.out) hb); have n1_ := Aside0.mk (Kd.R_below (by (with_reducible repeat (first | apply Kd.R_alloc | apply Kd.R_drewN | apply Kd.R_drew)); exact HO_8.out) hb); have n2_ := Aside0.mk (Kd.R_below (by (with_reducible repeat (first | apply Kd.R_alloc | apply Kd.R_drewN | apply Kd.R_drew)); exact HO490.out) hb); have n3_ := Aside0.mk (below_step (by repeat (first | (with_reducible first | exact HB.out | apply below_alloc | apply pw_below_drewN | apply below_drew1) | exact HB.out)) hb); clear HO_5; clear HO_8; clear HO490; clear HB; have HO_5 := n0_; have HO_8 := n1_; have HO490 := n2_; have HB := n3_; clear n0_ n1_ n2_ n3_; (try clear hb); (try clear hb2); (try clear hk); (try clear hi)))
          go_ret
          exact ⟨by first | rfl | (simp [errW_none, errW_some] <;> rfl) | (simp [*, errW_none, errW_some] <;> rfl), by repeat (first | (with_reducible first | exact HB.out | apply below_alloc | apply pw_below_drewN | apply below_drew1) | exact HB.out)⟩
        · replace c28 := Bool.eq_false_iff.mpr c28
          subst c28
          have H1 : (some false) = some r := by rw [if_neg (show ¬ (false = true) by decide)] at H; exact H
          clear H
          have H := H1
          clear H1
          exact absurd ((Option.some.inj H).trans HTRUE.out) (by decide)

end Go.Proofs.YtnogfhhfklkbiaaDoor.H

set_option linter.unusedVariables false
set_option linter.unusedSimpArgs false
set_option maxHeartbeats 1000000
namespace Go.Proofs.YtnogfhhfklkbiaaDoor.H
open Go.RowKit Go.Proofs.YtnogfhhfklkbiaaDoorW.PrintWords Go.Proofs.YtnogfhhfklkbiaaDoorW.PrintLast Go.Proofs.YtnogfhhfklkbiaaDoorW.PrintMore
open Go.Proofs.YtnogfhhfklkbiaaDoor.Src

theorem reftoken_is (s : ByteArray) (hs : s.size ≤ 1000000000000) (p : Nat) (hp : p < s.size) (c : UInt8) (r : List UInt8) (hcr : s.data.toList.drop p = c :: r) (k : Nat) (hk : 2 * s.size + 202 ≤ k) :
    trammelref1_token.f k s (p : Int) = some (refT p (tokL (c :: r))) := by
  unfold trammelref1_token.f
  exact token_loop s hs p hp c r hcr (s.size - p) 0 k (by omega) (Nat.zero_le _) (by omega)
theorem remark_loop (s : ByteArray) (hs : s.size ≤ 4096) (ts : List S60) (p : Nat) (hp : p ≤ s.size) : ∀ (d i m : Nat), i + d = cutN 10 (s.data.toList.drop p) → trammelref1_Tokens.l1 (m + d + 1) s ts ((p + i : Nat) : Int) = trammelref1_Tokens.l0 m s ts ((p + cutN 10 (s.data.toList.drop p) : Nat) : Int) := by
  have hl := list_size s
  have hcl := cutN_le 10 (s.data.toList.drop p)
  rw [List.length_drop] at hcl
  intro d
  induction d with
  | zero =>
    intro i m hi
    simp only [trammelref1_Tokens.l1]
    have hi' : i = cutN 10 (s.data.toList.drop p) := by omega
    by_cases hlt : p + i < s.size
    · have hlt2 : i < (s.data.toList.drop p).length := by rw [List.length_drop]; omega
      have ho := tw_out (· != 10) (s.data.toList.drop p) (by unfold cutN at hi'; omega)
      have hg : s.data.toList[p + i]? = some (s.data.toList.drop p)[i] := by
        rw [← List.getElem?_eq_getElem hlt2, List.getElem?_drop]
      have e10 : (s.data.toList.drop p)[i] = 10 := by
        have : (s.data.toList.drop p)[i] = (s.data.toList.drop p)[((s.data.toList.drop p).takeWhile (· != 10)).length]'(by unfold cutN at hi'; omega) := by congr 1
        rw [this]
        simpa using ho
      rw [if_pos (by omega), if_pos (by omega), bt_list s (p + i) _ hg, if_pos (by rw [e10]; rfl), hi']
    · rw [if_neg (by omega), hi']
  | succ d ih =>
    intro i m hi
    rw [show m + (d + 1) + 1 = (m + d + 1) + 1 by omega]
    simp only [trammelref1_Tokens.l1]
    have hlt2 : i < (s.data.toList.drop p).length := by rw [List.length_drop]; omega
    have hin := tw_in (· != 10) (s.data.toList.drop p) i (by unfold cutN at hi; omega)
    have hg : s.data.toList[p + i]? = some (s.data.toList.drop p)[i] := by
      rw [← List.getElem?_eq_getElem hlt2, List.getElem?_drop]
    have e10 : ¬ (((s.data.toList.drop p)[i].toNat : Nat) : Int) = 10 := fun e => by
      have : (s.data.toList.drop p)[i] = 10 := UInt8.toNat_inj.1 (by show _ = 10; omega)
      rw [this] at hin
      exact absurd hin (by decide)
    rw [if_pos (by omega), if_pos (by omega), bt_list s (p + i) _ hg, if_neg e10, wrapS (by omega) (by omega), show (((p + i : Nat) : Int) + 1) = ((p + (i + 1) : Nat) : Int) from by omega]
    exact ih (i + 1) m (by omega)
def conv (r : Lexed) : List S60 × Int × Int := (r.1, (told2 r.2).1, (told2 r.2).2)
theorem tokL_ok {l : List UInt8} (e : Int) (h : (tokL l).2.2.2.2.2 = some e) : e ≠ 0 := by
  have sg : (sgnL l).2.2.2.2.2 = some e → e ≠ 0 := by
    intro h
    unfold sgnL at h
    repeat' split at h
    all_goals (simp [noTok] at h; try omega)
  unfold tokL at h
  generalize l.takeWhile isMore = w at *
  cases w with
  | nil => exact sg h
  | cons c r =>
    rw [wordL_cons] at h
    by_cases h95 : c = 95
    · rw [if_pos h95] at h
      exact sg h
    · rw [if_neg h95] at h
      repeat' split at h
      all_goals (simp [noTok] at h; try omega)
theorem reftokens_loop (s : ByteArray) (hs : s.size ≤ 4096) : ∀ (f p k : Nat) (ts : List S60), p ≤ s.size → s.size - p ≤ f → ts.length ≤ p → 2 * s.size + 300 + 4 * f + 2 * (s.size - p) ≤ k →
    trammelref1_Tokens.l0 k s ts (p : Int) = some (conv (appT ts (lexL f p (s.data.toList.drop p)))) := by
  intro f
  have hl := list_size s
  induction f with
  | zero =>
    intro p k ts hp hf ht hk
    obtain ⟨k, rfl⟩ : ∃ m, k = m + 1 := ⟨k - 1, by omega⟩
    simp only [trammelref1_Tokens.l0]
    rw [if_neg (by omega)]
    simp [lexL, appT, conv, told2]
  | succ f ih =>
    intro p k ts hp hf ht hk
    obtain ⟨k, rfl⟩ : ∃ m, k = m + 2 := ⟨k - 2, by omega⟩
    by_cases hlt : p < s.size
    · have hlt' : p < s.data.toList.length := by omega
      have hg : s.data.toList[p]? = some s.data.toList[p] := List.getElem?_eq_getElem hlt'
      have hcons := List.drop_eq_getElem_cons hlt'
      have hdl : (s.data.toList.drop p).length = s.size - p := by rw [List.length_drop, hl]
      have hbt := bt_list s p _ hg
      have hrem := remark_loop s hs ts p hp
      rw [hcons] at hdl hrem ⊢
      generalize s.data.toList[p] = c at *
      have hr : s.data.toList.drop (p + 1) = s.data.toList.drop (p + 1) := rfl
      generalize hrr : s.data.toList.drop (p + 1) = r at *
      have step : trammelref1_Tokens.l0 (k + 2) s ts (p : Int) = trammelref1_Tokens.j1 (k + 1) s ts (p : Int) (c.toNat : Int) (isBlank c) := by
        simp only [trammelref1_Tokens.l0]
        rw [if_pos (by omega), if_pos (by omega), hbt]
        have e32 := byte_beq c 32 (by decide)
        have e9 := byte_beq c 9 (by decide)
        have e10 := byte_beq c 10 (by decide)
        rw [show ((32 : Nat) : Int) = 32 from rfl] at e32
        rw [show ((9 : Nat) : Int) = 9 from rfl] at e9
        rw [show ((10 : Nat) : Int) = 10 from rfl] at e10
        unfold isBlank
        by_cases h32 : ((c.toNat : Int)) = 32
        · rw [if_pos h32]
          rw [beq_iff_eq.2 h32] at e32
          rw [show (c == 32) = true from e32.symm, Bool.true_or]
        · rw [if_neg h32]
          rw [beq_eq_false_iff_ne.2 h32] at e32
          rw [show (c == 32) = false from e32.symm, Bool.false_or]
          by_cases h9 : ((c.toNat : Int)) = 9
          · rw [if_pos h9]
            rw [beq_iff_eq.2 h9] at e9
            rw [show (c == 9) = true from e9.symm, Bool.true_or]
          · rw [if_neg h9]
            rw [beq_eq_false_iff_ne.2 h9] at e9
            rw [show (c == 9) = false from e9.symm, Bool.false_or, e10]
            rfl
      rw [step, lexL]
      simp only [trammelref1_Tokens.j1]
      by_cases hb : isBlank c = true
      · rw [if_pos hb, if_pos hb, wrapS (by omega) (by omega), show ((p : Int) + 1) = ((p + 1 : Nat) : Int) from by omega, ← hrr]
        exact ih (p + 1) k ts (by omega) (by omega) (by omega) (by omega)
      · rw [if_neg hb, if_neg hb]
        have hcd : ∀ n, (c :: r).drop n = s.data.toList.drop (p + n) := fun n => by rw [← hcons, List.drop_drop]
        by_cases h35 : c = 35
        · have hn1 : 1 ≤ cutN 10 (c :: r) := by rw [h35]; simp [cutN, List.takeWhile_cons]
          have hn2 := cutN_le 10 (c :: r)
          rw [if_pos (by rw [h35]; rfl), if_pos h35]
          have hR := hrem (cutN 10 (c :: r)) 0 (k - (cutN 10 (c :: r)) - 1) (by omega)
          rw [show k - cutN 10 (c :: r) - 1 + cutN 10 (c :: r) + 1 = k by omega, Nat.add_zero] at hR
          rw [hR, hcd]
          exact ih (p + cutN 10 (c :: r)) _ ts (by omega) (by omega) (by omega) (by omega)
        · have hc35 : ¬ ((c.toNat : Int)) = 35 := fun h => h35 (UInt8.toNat_inj.1 (by show c.toNat = 35; omega))
          rw [if_neg hc35, if_neg h35, reftoken_is s (by omega) p hlt c r hcons k (by omega), Option.bind_some]
          have hlen := tokL_len (l := c :: r) (by simp)
          unfold consT refT
          cases he : (tokL (c :: r)).2.2.2.2.2 with
          | some e =>
            have hne := tokL_ok e he
            simp [appT, conv, told2, hne]
          | none =>
            obtain ⟨n, hn, hn1, hn2⟩ := hlen he
            simp only [hn, Int.toNat_natCast]
            rw [if_pos trivial, if_pos (by omega), show ((p : Int) + (n : Int)) = ((p + n : Nat) : Int) from by omega, hcd n]
            rw [ih (p + n) k _ (by omega) (by omega) (by rw [List.length_append, List.length_singleton]; omega) (by omega)]
            unfold appT
            cases (lexL f (p + n) (s.data.toList.drop (p + n))).2 with
            | some e => rfl
            | none => simp
    · simp only [trammelref1_Tokens.l0]
      rw [if_neg (by omega), List.drop_eq_nil_of_le (by omega)]
      simp [lexL, appT, conv, told2]
theorem reftok_is (s : ByteArray) (hs : s.size ≤ 281474976710656) (k : Nat) (hk : 8 * s.size + 400 ≤ k) : trammelref1_Tokens.f k s = some (tokS s) := by
  unfold trammelref1_Tokens.f tokS lexS
  by_cases h4 : (s.size : Int) > 4096
  · rw [if_pos h4, if_pos (by omega)]
    rfl
  · rw [if_neg h4, if_neg (by omega)]
    have hv : trammelref1_Valid.f k s = some (told (bad s 0)) := by
      unfold trammelref1_Valid.f
      exact ref_Valid s hs 0 k (by omega)
    rw [hv, Option.bind_some]
    cases hb : bad s 0 with
    | some a => rfl
    | none =>
      show trammelref1_Tokens.l0 k s [] 0 = _
      have := reftokens_loop s (by omega) s.size 0 k [] (Nat.zero_le _) (by omega) (Nat.zero_le _) (by omega)
      rw [show ((0 : Nat) : Int) = 0 from rfl, List.drop_zero] at this
      rw [this, appT_nil _ (lexL_err _ _ _)]
      rfl
theorem spoil_loop : ∀ (d : Nat) (ts : List S60) (i k : Nat), ts.length - i = d → ts.length ≤ 1000000000000 → d < k → ∃ us, trammellaw0_SpoilTokens.l0 k ts (i : Int) = some us := by
  intro d
  induction d with
  | zero =>
    intro ts i k hd hl hk
    obtain ⟨k, rfl⟩ : ∃ m, k = m + 1 := ⟨k - 1, by omega⟩
    refine ⟨ts, ?_⟩
    simp only [trammellaw0_SpoilTokens.l0]
    rw [if_neg (by omega)]
  | succ d ih =>
    intro ts i k hd hl hk
    obtain ⟨k, rfl⟩ : ∃ m, k = m + 1 := ⟨k - 1, by omega⟩
    simp only [trammellaw0_SpoilTokens.l0]
    rw [if_pos (by omega), if_pos (by omega), wrapS (by omega) (by omega), show ((i : Int) + 1) = ((i + 1 : Nat) : Int) from by omega]
    exact ih _ (i + 1) k (by rw [List.length_set]; omega) (by rw [List.length_set]; omega) (by omega)
theorem lexL_count : ∀ f p l, (lexL f p l).1.length ≤ f := by
  intro f
  induction f with
  | zero => intro p l; simp [lexL]
  | succ f ih =>
    intro p l
    cases l with
    | nil => simp [lexL]
    | cons c r =>
      rw [lexL]
      by_cases hb : isBlank c = true
      · rw [if_pos hb]
        have := ih (p + 1) r
        omega
      · rw [if_neg hb]
        by_cases h35 : c = 35
        · rw [if_pos h35]
          have := ih (p + cutN 10 (c :: r)) ((c :: r).drop (cutN 10 (c :: r)))
          omega
        · rw [if_neg h35]
          have := ih (p + (tokL (c :: r)).2.2.2.2.1.toNat) ((c :: r).drop (tokL (c :: r)).2.2.2.2.1.toNat)
          unfold consT
          split
          · simp
          · split
            · simp
            · simp only [List.length_cons]
              omega
theorem tokS_count (s : ByteArray) : (tokS s).1.length ≤ 4096 := by
  unfold tokS lexS
  by_cases h : 4096 < s.size
  · rw [if_pos h]; simp
  · rw [if_neg h]
    cases bad s 0 with
    | some a => simp
    | none =>
      have := lexL_count s.size 0 s.data.toList
      simp only
      omega
theorem Lexes_pure (a0 a1 : ByteArray) (h0 : a0.size ≤ 140737488351232) (h1 : a1.size ≤ 140737488351232) : ∃ k, trammellaw2_Lexes.f k a0 a1 = some true := by
  refine ⟨8 * a0.size + a1.size + 5000, ?_⟩
  have hc := tokS_count a0
  obtain ⟨us, hu⟩ := spoil_loop (tokS a0).1.length (tokS a0).1 0 (8 * a0.size + a1.size + 4999) rfl (by omega) (by omega)
  unfold trammellaw2_Lexes.f
  rw [tokS_is a0 (by omega) _ (by omega), Option.bind_some, reftok_is a0 (by omega) _ (by omega), Option.bind_some, sameT_is _ _ _ (by omega) (by omega), (eqToks_iff _ _).2 rfl, Option.bind_some, if_pos rfl, if_pos rfl]
  simp only [trammellaw0_Num.f, Option.bind_some, if_true]
  rw [keyword_is a1 _ (by omega), Option.bind_some, refKw_is a1 (by omega) _ (by omega), Option.bind_some, bne_self_eq_false]
  show trammellaw2_Lexes.j0 (8 * a0.size + a1.size + 4999 + 1) _ _ _ _ = _
  simp only [trammellaw2_Lexes.j0, Bool.false_eq_true, if_false]
  have hu' : trammellaw0_SpoilTokens.f (8 * a0.size + a1.size + 4999) (tokS a0).1 = some us := hu
  rw [hu', Option.bind_some, tokS_is a0 (by omega) _ (by omega), Option.bind_some, sameT_is _ _ _ (by omega) (by omega), (eqToks_iff _ _).2 rfl, Option.bind_some, if_pos rfl,
    at_rounds trammellaw2_awake.mono (show 300 ≤ 8 * a0.size + a1.size + 4999 by omega) trammellaw2_awake.is]
  rfl
end Go.Proofs.YtnogfhhfklkbiaaDoor.H
