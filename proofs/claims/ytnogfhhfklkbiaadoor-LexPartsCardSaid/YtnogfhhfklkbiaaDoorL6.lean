/- Several texts in one: contracts of functions of the program, and what they lean on. In part written by a program of this session over the kit's print, in part by hand. -/
import Derived.Test.YtnogfhhfklkbiaaDoorL0
import Derived.Test.YtnogfhhfklkbiaaDoorL1
import Derived.Test.YtnogfhhfklkbiaaDoorL3
import Derived.Test.YtnogfhhfklkbiaaDoorL5
import Derived.Test.YtnogfhhfklkbiaaDoorRows
import Derived.WalkKit
import Derived.ProofKit
import Derived.LaidLaws
import Derived.Deep.DeepLaidRun
import Derived.LaidHandle
import Derived.JoinedCond
namespace Go.Proofs.YtnogfhhfklkbiaaDoor.H
open Go.RowKit Go.Proofs.YtnogfhhfklkbiaaDoorW.PrintWords Go.Proofs.YtnogfhhfklkbiaaDoorW.PrintLast Go.Proofs.YtnogfhhfklkbiaaDoorW.PrintMore
attribute [local go_sem] max2_int min2_int max_two min_two max_three min_three max_four min_four   -- for this text's walks alone
set_option linter.unusedVariables false
set_option linter.unusedSimpArgs false

/-! ### trammellaw2_awake: function 33 -/
def trammellaw2_awake.f (k : Nat)  : Option (Bool) := (lex_Tokens.f k (⟨#[108, 101, 116, 32, 120, 49, 32, 61, 32, 50, 48, 32, 35, 32, 110, 111, 10, 45, 62]⟩ : ByteArray)).bind fun bt441 => ((lex_Tokens.f k (⟨#[97, 32, 36]⟩ : ByteArray)).bind fun bt446 => ((lex_Tokens.f k (⟨#[32, 48, 49]⟩ : ByteArray)).bind fun bt451 => ((lex_Tokens.f k (⟨#[97, 255]⟩ : ByteArray)).bind fun bt456 => ((trammellaw0_SameTokens.f k bt441.1 (([(⟨2, (⟨#[108, 101, 116]⟩ : ByteArray), 0, 0⟩ : S60), (⟨0, (⟨#[120, 49]⟩ : ByteArray), 0, 4⟩ : S60), (⟨3, (⟨#[61]⟩ : ByteArray), 0, 7⟩ : S60), (⟨1, (⟨#[]⟩ : ByteArray), 20, 9⟩ : S60), (⟨3, (⟨#[45, 62]⟩ : ByteArray), 0, 17⟩ : S60)] : List (S60)))).bind fun t464 => (if t464 = true then (if bt441.2.1 = 0 then ((trammellaw0_Num.f bt441.2.2).bind fun t465 => (if t465 = 0 then (if bt446.2.1 = 2 then ((trammellaw0_Num.f bt446.2.2).bind fun t466 => (if t466 = 201 then (if bt451.2.1 = 1 then ((trammellaw0_Num.f bt451.2.2).bind fun t467 => (if t467 = 202 then (if bt456.2.1 = 1 then ((trammellaw0_Num.f bt456.2.2).bind fun t468 => (if t468 = 200 then ((lex_Keyword.f k (⟨#[114, 101, 99]⟩ : ByteArray)).bind fun t469 => (if t469 = true then ((lex_Keyword.f k (⟨#[114, 101]⟩ : ByteArray)).bind fun t470 => (some (!t470))) else (some false))) else (some false))) else (some false)) else (some false))) else (some false)) else (some false))) else (some false)) else (some false))) else (some false)) else (some false))))))
theorem trammellaw2_awake.mono : ∀ k, LeO (trammellaw2_awake.f k ) (trammellaw2_awake.f (k + 1) ) := by
  intro  k
  unfold trammellaw2_awake.f
  repeat' first
      | (with_reducible exact lex_Keyword.mono _ _)
      | (with_reducible exact lex_Tokens.mono _ _)
      | (with_reducible exact trammellaw0_SameTokens.mono _ _ _)
      | (with_reducible exact LeO.refl _)
      | (with_reducible exact LeO.none _)
      | (with_reducible refine LeO.ite ?_ ?_)
      | (with_reducible refine LeO.bind ?_ (fun _ => ?_))
      | exact lex_Keyword.mono _ _
      | exact lex_Tokens.mono _ _
      | exact trammellaw0_SameTokens.mono _ _ _
      | exact LeO.none _
      | refine LeO.ite ?_ ?_
      | refine LeO.bind ?_ (fun _ => ?_)
set_option maxHeartbeats 8000000 in
set_option maxRecDepth 100000 in
theorem trammellaw2_awake.callsT (k : Nat)  (r : Bool) (w : World) (htrue : r = true) (h : trammellaw2_awake.f k  = some r) (hG : Err.ErrTy w) :
    Calls Tryd.prog 33 #[] w fun e w' => e = .returned (.bool r) ∧ Below w.heap.size w w' := by
  have HG := Aside0.mk hG
  clear hG
  have HTRUE := Aside0.mk htrue
  clear htrue
  have hu60 := Tryd.underlying60
  have HB := Aside0.mk (Below.refl w.heap.size w)
  have H : ((lex_Tokens.f k (⟨#[108, 101, 116, 32, 120, 49, 32, 61, 32, 50, 48, 32, 35, 32, 110, 111, 10, 45, 62]⟩ : ByteArray)).bind fun bt441 => ((lex_Tokens.f k (⟨#[97, 32, 36]⟩ : ByteArray)).bind fun bt446 => ((lex_Tokens.f k (⟨#[32, 48, 49]⟩ : ByteArray)).bind fun bt451 => ((lex_Tokens.f k (⟨#[97, 255]⟩ : ByteArray)).bind fun bt456 => ((trammellaw0_SameTokens.f k bt441.1 (([(⟨2, (⟨#[108, 101, 116]⟩ : ByteArray), 0, 0⟩ : S60), (⟨0, (⟨#[120, 49]⟩ : ByteArray), 0, 4⟩ : S60), (⟨3, (⟨#[61]⟩ : ByteArray), 0, 7⟩ : S60), (⟨1, (⟨#[]⟩ : ByteArray), 20, 9⟩ : S60), (⟨3, (⟨#[45, 62]⟩ : ByteArray), 0, 17⟩ : S60)] : List (S60)))).bind fun t464 => (if t464 = true then (if bt441.2.1 = 0 then ((trammellaw0_Num.f bt441.2.2).bind fun t465 => (if t465 = 0 then (if bt446.2.1 = 2 then ((trammellaw0_Num.f bt446.2.2).bind fun t466 => (if t466 = 201 then (if bt451.2.1 = 1 then ((trammellaw0_Num.f bt451.2.2).bind fun t467 => (if t467 = 202 then (if bt456.2.1 = 1 then ((trammellaw0_Num.f bt456.2.2).bind fun t468 => (if t468 = 200 then ((lex_Keyword.f k (⟨#[114, 101, 99]⟩ : ByteArray)).bind fun t469 => (if t469 = true then ((lex_Keyword.f k (⟨#[114, 101]⟩ : ByteArray)).bind fun t470 => (some (!t470))) else (some false))) else (some false))) else (some false)) else (some false))) else (some false)) else (some false))) else (some false)) else (some false))) else (some false)) else (some false))))))) = some r := h
  clear h
  replace H := Option.bind_eq_some_iff.mp H
  obtain ⟨⟨t441, t442, t443⟩, A10, H⟩ := H
  replace H : ((lex_Tokens.f k (⟨#[97, 32, 36]⟩ : ByteArray)).bind fun bt446 => ((lex_Tokens.f k (⟨#[32, 48, 49]⟩ : ByteArray)).bind fun bt451 => ((lex_Tokens.f k (⟨#[97, 255]⟩ : ByteArray)).bind fun bt456 => ((trammellaw0_SameTokens.f k t441 (([(⟨2, (⟨#[108, 101, 116]⟩ : ByteArray), 0, 0⟩ : S60), (⟨0, (⟨#[120, 49]⟩ : ByteArray), 0, 4⟩ : S60), (⟨3, (⟨#[61]⟩ : ByteArray), 0, 7⟩ : S60), (⟨1, (⟨#[]⟩ : ByteArray), 20, 9⟩ : S60), (⟨3, (⟨#[45, 62]⟩ : ByteArray), 0, 17⟩ : S60)] : List (S60)))).bind fun t464 => (if t464 = true then (if t442 = 0 then ((trammellaw0_Num.f t443).bind fun t465 => (if t465 = 0 then (if bt446.2.1 = 2 then ((trammellaw0_Num.f bt446.2.2).bind fun t466 => (if t466 = 201 then (if bt451.2.1 = 1 then ((trammellaw0_Num.f bt451.2.2).bind fun t467 => (if t467 = 202 then (if bt456.2.1 = 1 then ((trammellaw0_Num.f bt456.2.2).bind fun t468 => (if t468 = 200 then ((lex_Keyword.f k (⟨#[114, 101, 99]⟩ : ByteArray)).bind fun t469 => (if t469 = true then ((lex_Keyword.f k (⟨#[114, 101]⟩ : ByteArray)).bind fun t470 => (some (!t470))) else (some false))) else (some false))) else (some false)) else (some false))) else (some false)) else (some false))) else (some false)) else (some false))) else (some false)) else (some false)))))) = some r := H
  have A1 := Aside0.mk A10
  clear A10
  replace H := Option.bind_eq_some_iff.mp H
  obtain ⟨⟨t446, t447, t448⟩, A20, H⟩ := H
  replace H : ((lex_Tokens.f k (⟨#[32, 48, 49]⟩ : ByteArray)).bind fun bt451 => ((lex_Tokens.f k (⟨#[97, 255]⟩ : ByteArray)).bind fun bt456 => ((trammellaw0_SameTokens.f k t441 (([(⟨2, (⟨#[108, 101, 116]⟩ : ByteArray), 0, 0⟩ : S60), (⟨0, (⟨#[120, 49]⟩ : ByteArray), 0, 4⟩ : S60), (⟨3, (⟨#[61]⟩ : ByteArray), 0, 7⟩ : S60), (⟨1, (⟨#[]⟩ : ByteArray), 20, 9⟩ : S60), (⟨3, (⟨#[45, 62]⟩ : ByteArray), 0, 17⟩ : S60)] : List (S60)))).bind fun t464 => (if t464 = true then (if t442 = 0 then ((trammellaw0_Num.f t443).bind fun t465 => (if t465 = 0 then (if t447 = 2 then ((trammellaw0_Num.f t448).bind fun t466 => (if t466 = 201 then (if bt451.2.1 = 1 then ((trammellaw0_Num.f bt451.2.2).bind fun t467 => (if t467 = 202 then (if bt456.2.1 = 1 then ((trammellaw0_Num.f bt456.2.2).bind fun t468 => (if t468 = 200 then ((lex_Keyword.f k (⟨#[114, 101, 99]⟩ : ByteArray)).bind fun t469 => (if t469 = true then ((lex_Keyword.f k (⟨#[114, 101]⟩ : ByteArray)).bind fun t470 => (some (!t470))) else (some false))) else (some false))) else (some false)) else (some false))) else (some false)) else (some false))) else (some false)) else (some false))) else (some false)) else (some false))))) = some r := H
  have A2 := Aside0.mk A20
  clear A20
  replace H := Option.bind_eq_some_iff.mp H
  obtain ⟨⟨t451, t452, t453⟩, A30, H⟩ := H
  replace H : ((lex_Tokens.f k (⟨#[97, 255]⟩ : ByteArray)).bind fun bt456 => ((trammellaw0_SameTokens.f k t441 (([(⟨2, (⟨#[108, 101, 116]⟩ : ByteArray), 0, 0⟩ : S60), (⟨0, (⟨#[120, 49]⟩ : ByteArray), 0, 4⟩ : S60), (⟨3, (⟨#[61]⟩ : ByteArray), 0, 7⟩ : S60), (⟨1, (⟨#[]⟩ : ByteArray), 20, 9⟩ : S60), (⟨3, (⟨#[45, 62]⟩ : ByteArray), 0, 17⟩ : S60)] : List (S60)))).bind fun t464 => (if t464 = true then (if t442 = 0 then ((trammellaw0_Num.f t443).bind fun t465 => (if t465 = 0 then (if t447 = 2 then ((trammellaw0_Num.f t448).bind fun t466 => (if t466 = 201 then (if t452 = 1 then ((trammellaw0_Num.f t453).bind fun t467 => (if t467 = 202 then (if bt456.2.1 = 1 then ((trammellaw0_Num.f bt456.2.2).bind fun t468 => (if t468 = 200 then ((lex_Keyword.f k (⟨#[114, 101, 99]⟩ : ByteArray)).bind fun t469 => (if t469 = true then ((lex_Keyword.f k (⟨#[114, 101]⟩ : ByteArray)).bind fun t470 => (some (!t470))) else (some false))) else (some false))) else (some false)) else (some false))) else (some false)) else (some false))) else (some false)) else (some false))) else (some false)) else (some false)))) = some r := H
  have A3 := Aside0.mk A30
  clear A30
  replace H := Option.bind_eq_some_iff.mp H
  obtain ⟨⟨t456, t457, t458⟩, A40, H⟩ := H
  replace H : ((trammellaw0_SameTokens.f k t441 (([(⟨2, (⟨#[108, 101, 116]⟩ : ByteArray), 0, 0⟩ : S60), (⟨0, (⟨#[120, 49]⟩ : ByteArray), 0, 4⟩ : S60), (⟨3, (⟨#[61]⟩ : ByteArray), 0, 7⟩ : S60), (⟨1, (⟨#[]⟩ : ByteArray), 20, 9⟩ : S60), (⟨3, (⟨#[45, 62]⟩ : ByteArray), 0, 17⟩ : S60)] : List (S60)))).bind fun t464 => (if t464 = true then (if t442 = 0 then ((trammellaw0_Num.f t443).bind fun t465 => (if t465 = 0 then (if t447 = 2 then ((trammellaw0_Num.f t448).bind fun t466 => (if t466 = 201 then (if t452 = 1 then ((trammellaw0_Num.f t453).bind fun t467 => (if t467 = 202 then (if t457 = 1 then ((trammellaw0_Num.f t458).bind fun t468 => (if t468 = 200 then ((lex_Keyword.f k (⟨#[114, 101, 99]⟩ : ByteArray)).bind fun t469 => (if t469 = true then ((lex_Keyword.f k (⟨#[114, 101]⟩ : ByteArray)).bind fun t470 => (some (!t470))) else (some false))) else (some false))) else (some false)) else (some false))) else (some false)) else (some false))) else (some false)) else (some false))) else (some false)) else (some false))) = some r := H
  have A4 := Aside0.mk A40
  clear A40
  obtain ⟨y461, hy461⟩ : ∃ y_ : List (S60), y_ = (([(⟨2, (⟨#[108, 101, 116]⟩ : ByteArray), 0, 0⟩ : S60), (⟨0, (⟨#[120, 49]⟩ : ByteArray), 0, 4⟩ : S60), (⟨3, (⟨#[61]⟩ : ByteArray), 0, 7⟩ : S60), (⟨1, (⟨#[]⟩ : ByteArray), 20, 9⟩ : S60), (⟨3, (⟨#[45, 62]⟩ : ByteArray), 0, 17⟩ : S60)] : List (S60))) := ⟨_, rfl⟩
  replace H : ((trammellaw0_SameTokens.f k t441 y461).bind fun t464 => (if t464 = true then (if t442 = 0 then ((trammellaw0_Num.f t443).bind fun t465 => (if t465 = 0 then (if t447 = 2 then ((trammellaw0_Num.f t448).bind fun t466 => (if t466 = 201 then (if t452 = 1 then ((trammellaw0_Num.f t453).bind fun t467 => (if t467 = 202 then (if t457 = 1 then ((trammellaw0_Num.f t458).bind fun t468 => (if t468 = 200 then ((lex_Keyword.f k (⟨#[114, 101, 99]⟩ : ByteArray)).bind fun t469 => (if t469 = true then ((lex_Keyword.f k (⟨#[114, 101]⟩ : ByteArray)).bind fun t470 => (some (!t470))) else (some false))) else (some false))) else (some false)) else (some false))) else (some false)) else (some false))) else (some false)) else (some false))) else (some false)) else (some false))) = some r := by first | (rw [hy461]; with_reducible exact H) | (have H2_ := (Option.bind_some _ _).symm.trans H; rw [hy461]; with_reducible exact H2_) | (have H2_ := (Option.bind_some _ _).symm.trans H; with_reducible exact H2_) | with_reducible exact H | (rw [hy461]; exact H) | exact H
  have Ny461 := Aside0.mk hy461
  clear hy461
  replace H := Option.bind_eq_some_iff.mp H
  obtain ⟨t464, A50, H⟩ := H
  replace H : (if t464 = true then (if t442 = 0 then ((trammellaw0_Num.f t443).bind fun t465 => (if t465 = 0 then (if t447 = 2 then ((trammellaw0_Num.f t448).bind fun t466 => (if t466 = 201 then (if t452 = 1 then ((trammellaw0_Num.f t453).bind fun t467 => (if t467 = 202 then (if t457 = 1 then ((trammellaw0_Num.f t458).bind fun t468 => (if t468 = 200 then ((lex_Keyword.f k (⟨#[114, 101, 99]⟩ : ByteArray)).bind fun t469 => (if t469 = true then ((lex_Keyword.f k (⟨#[114, 101]⟩ : ByteArray)).bind fun t470 => (some (!t470))) else (some false))) else (some false))) else (some false)) else (some false))) else (some false)) else (some false))) else (some false)) else (some false))) else (some false)) else (some false)) = some r := H
  have A5 := Aside0.mk A50
  clear A50
  by_cases c6 : t464 = true
  · subst c6
    have H1 : (if t442 = 0 then ((trammellaw0_Num.f t443).bind fun t465 => (if t465 = 0 then (if t447 = 2 then ((trammellaw0_Num.f t448).bind fun t466 => (if t466 = 201 then (if t452 = 1 then ((trammellaw0_Num.f t453).bind fun t467 => (if t467 = 202 then (if t457 = 1 then ((trammellaw0_Num.f t458).bind fun t468 => (if t468 = 200 then ((lex_Keyword.f k (⟨#[114, 101, 99]⟩ : ByteArray)).bind fun t469 => (if t469 = true then ((lex_Keyword.f k (⟨#[114, 101]⟩ : ByteArray)).bind fun t470 => (some (!t470))) else (some false))) else (some false))) else (some false)) else (some false))) else (some false)) else (some false))) else (some false)) else (some false))) else (some false)) = some r := by rw [if_pos rfl] at H; exact H
    clear H
    have H := H1
    clear H1
    by_cases c7 : t442 = 0
    · rw [if_pos c7] at H
      have c7b0 : (t442 == 0) = true := beq_iff_eq.mpr c7
      have c7b1 : (t442 != 0) = false := bne_eq_false_iff_eq.mpr c7
      clear c7
      replace H := Option.bind_eq_some_iff.mp H
      obtain ⟨t465, A80, H⟩ := H
      replace H : (if t465 = 0 then (if t447 = 2 then ((trammellaw0_Num.f t448).bind fun t466 => (if t466 = 201 then (if t452 = 1 then ((trammellaw0_Num.f t453).bind fun t467 => (if t467 = 202 then (if t457 = 1 then ((trammellaw0_Num.f t458).bind fun t468 => (if t468 = 200 then ((lex_Keyword.f k (⟨#[114, 101, 99]⟩ : ByteArray)).bind fun t469 => (if t469 = true then ((lex_Keyword.f k (⟨#[114, 101]⟩ : ByteArray)).bind fun t470 => (some (!t470))) else (some false))) else (some false))) else (some false)) else (some false))) else (some false)) else (some false))) else (some false)) else (some false)) = some r := H
      have A8 := Aside0.mk A80
      clear A80
      by_cases c9 : t465 = 0
      · rw [if_pos c9] at H
        have c9b0 : (t465 == 0) = true := beq_iff_eq.mpr c9
        have c9b1 : (t465 != 0) = false := bne_eq_false_iff_eq.mpr c9
        clear c9
        by_cases c10 : t447 = 2
        · rw [if_pos c10] at H
          have c10b0 : (t447 == 2) = true := beq_iff_eq.mpr c10
          have c10b1 : (t447 != 2) = false := bne_eq_false_iff_eq.mpr c10
          clear c10
          replace H := Option.bind_eq_some_iff.mp H
          obtain ⟨t466, A110, H⟩ := H
          replace H : (if t466 = 201 then (if t452 = 1 then ((trammellaw0_Num.f t453).bind fun t467 => (if t467 = 202 then (if t457 = 1 then ((trammellaw0_Num.f t458).bind fun t468 => (if t468 = 200 then ((lex_Keyword.f k (⟨#[114, 101, 99]⟩ : ByteArray)).bind fun t469 => (if t469 = true then ((lex_Keyword.f k (⟨#[114, 101]⟩ : ByteArray)).bind fun t470 => (some (!t470))) else (some false))) else (some false))) else (some false)) else (some false))) else (some false)) else (some false)) = some r := H
          have A11 := Aside0.mk A110
          clear A110
          by_cases c12 : t466 = 201
          · rw [if_pos c12] at H
            have c12b0 : (t466 == 201) = true := beq_iff_eq.mpr c12
            have c12b1 : (t466 != 201) = false := bne_eq_false_iff_eq.mpr c12
            clear c12
            by_cases c13 : t452 = 1
            · rw [if_pos c13] at H
              have c13b0 : (t452 == 1) = true := beq_iff_eq.mpr c13
              have c13b1 : (t452 != 1) = false := bne_eq_false_iff_eq.mpr c13
              clear c13
              replace H := Option.bind_eq_some_iff.mp H
              obtain ⟨t467, A140, H⟩ := H
              replace H : (if t467 = 202 then (if t457 = 1 then ((trammellaw0_Num.f t458).bind fun t468 => (if t468 = 200 then ((lex_Keyword.f k (⟨#[114, 101, 99]⟩ : ByteArray)).bind fun t469 => (if t469 = true then ((lex_Keyword.f k (⟨#[114, 101]⟩ : ByteArray)).bind fun t470 => (some (!t470))) else (some false))) else (some false))) else (some false)) else (some false)) = some r := H
              have A14 := Aside0.mk A140
              clear A140
              by_cases c15 : t467 = 202
              · rw [if_pos c15] at H
                have c15b0 : (t467 == 202) = true := beq_iff_eq.mpr c15
                have c15b1 : (t467 != 202) = false := bne_eq_false_iff_eq.mpr c15
                clear c15
                by_cases c16 : t457 = 1
                · rw [if_pos c16] at H
                  have c16b0 : (t457 == 1) = true := beq_iff_eq.mpr c16
                  have c16b1 : (t457 != 1) = false := bne_eq_false_iff_eq.mpr c16
                  clear c16
                  replace H := Option.bind_eq_some_iff.mp H
                  obtain ⟨t468, A170, H⟩ := H
                  replace H : (if t468 = 200 then ((lex_Keyword.f k (⟨#[114, 101, 99]⟩ : ByteArray)).bind fun t469 => (if t469 = true then ((lex_Keyword.f k (⟨#[114, 101]⟩ : ByteArray)).bind fun t470 => (some (!t470))) else (some false))) else (some false)) = some r := H
                  have A17 := Aside0.mk A170
                  clear A170
                  by_cases c18 : t468 = 200
                  · rw [if_pos c18] at H
                    have c18b0 : (t468 == 200) = true := beq_iff_eq.mpr c18
                    have c18b1 : (t468 != 200) = false := bne_eq_false_iff_eq.mpr c18
                    clear c18
                    replace H := Option.bind_eq_some_iff.mp H
                    obtain ⟨t469, A190, H⟩ := H
                    replace H : (if t469 = true then ((lex_Keyword.f k (⟨#[114, 101]⟩ : ByteArray)).bind fun t470 => (some (!t470))) else (some false)) = some r := H
                    have A19 := Aside0.mk A190
                    clear A190
                    by_cases c20 : t469 = true
                    · subst c20
                      have H1 : ((lex_Keyword.f k (⟨#[114, 101]⟩ : ByteArray)).bind fun t470 => (some (!t470))) = some r := by rw [if_pos rfl] at H; exact H
                      clear H
                      have H := H1
                      clear H1
                      replace H := Option.bind_eq_some_iff.mp H
                      obtain ⟨t470, A210, H⟩ := H
                      replace H : (some (!t470)) = some r := H
                      have A21 := Aside0.mk A210
                      clear A210
                      obtain rfl := Option.some.inj H
                      go_enter Tryd.func33, Tryd.ntmps33
                      go_wp2_with (first | ((with_reducible refine gate_callee (f := 27) rfl ?_); refine goesL_ (some 14) rfl rfl Tryd.func27 (by kernel_rfl) rfl #[.string (⟨#[108, 101, 116, 32, 120, 49, 32, 61, 32, 50, 48, 32, 35, 32, 110, 111, 10, 45, 62]⟩ : ByteArray)] rfl (by (try simp only [List.map_toArray, List.map_cons, List.map_nil]); first | done | rfl | (simp only [List.length_drop, List.length_take]; rfl)) ?_; (with_reducible refine (lex_Tokens.calls k (⟨#[108, 101, 116, 32, 120, 49, 32, 61, 32, 50, 48, 32, 35, 32, 110, 111, 10, 45, 62]⟩ : ByteArray) t441 t442 t443 _ A1.out (HG.out.below HG.out.lt (by repeat (first | (with_reducible first | exact HB.out | apply below_alloc | apply pw_below_drewN | apply below_drew1) | exact HB.out)))).mono ?_); rintro e w22 ⟨v444, rfl, ho0, hb⟩; refine ⟨_, rfl, ?_⟩; have n0_ := Aside0.mk (Kd.R_lower ho0 (below_size (by repeat (first | (with_reducible first | exact HB.out | apply below_alloc | apply pw_below_drewN | apply below_drew1) | exact HB.out)))); have n1_ := Aside0.mk (below_step (by repeat (first | (with_reducible first | exact HB.out | apply below_alloc | apply pw_below_drewN | apply below_drew1) | exact HB.out)) hb); clear HB; have HO445 := n0_; have HB := n1_; clear n0_ n1_; (try clear hb); (try clear hb2); (try clear hk); (try clear hi); (try clear ho0)) | ((with_reducible refine gate_callee (f := 27) rfl ?_); refine goesL_ (some 19) rfl rfl Tryd.func27 (by kernel_rfl) rfl #[.string (⟨#[97, 32, 36]⟩ : ByteArray)] rfl (by (try simp only [List.map_toArray, List.map_cons, List.map_nil]); first | done | rfl | (simp only [List.length_drop, List.length_take]; rfl)) ?_; (with_reducible refine (lex_Tokens.calls k (⟨#[97, 32, 36]⟩ : ByteArray) t446 t447 t448 _ A2.out (HG.out.below HG.out.lt (by repeat (first | (with_reducible first | exact HB.out | apply below_alloc | apply pw_below_drewN | apply below_drew1) | exact HB.out)))).mono ?_); rintro e w23 ⟨v449, rfl, ho0, hb⟩; refine ⟨_, rfl, ?_⟩; have n0_ := Aside0.mk (Kd.R_elder' (by (with_reducible repeat (first | apply Kd.R_alloc | apply Kd.R_drewN | apply Kd.R_drew)); exact HO445.out) (Kd.R_base ho0) hb); have n1_ := Aside0.mk (Kd.R_lower (Kd.R_new' ho0 (Kd.R_lt (by (with_reducible repeat (first | apply Kd.R_alloc | apply Kd.R_drewN | apply Kd.R_drew)); exact HO445.out))) (below_size (by repeat (first | (with_reducible first | exact HB.out | apply below_alloc | apply pw_below_drewN | apply below_drew1) | exact HB.out)))); have n2_ := Aside0.mk (below_step (by repeat (first | (with_reducible first | exact HB.out | apply below_alloc | apply pw_below_drewN | apply below_drew1) | exact HB.out)) hb); clear HO445; clear HB; have HO445 := n0_; have HO450 := n1_; have HB := n2_; clear n0_ n1_ n2_; (try clear hb); (try clear hb2); (try clear hk); (try clear hi); (try clear ho0)) | ((with_reducible refine gate_callee (f := 27) rfl ?_); refine goesL_ (some 24) rfl rfl Tryd.func27 (by kernel_rfl) rfl #[.string (⟨#[32, 48, 49]⟩ : ByteArray)] rfl (by (try simp only [List.map_toArray, List.map_cons, List.map_nil]); first | done | rfl | (simp only [List.length_drop, List.length_take]; rfl)) ?_; (with_reducible refine (lex_Tokens.calls k (⟨#[32, 48, 49]⟩ : ByteArray) t451 t452 t453 _ A3.out (HG.out.below HG.out.lt (by repeat (first | (with_reducible first | exact HB.out | apply below_alloc | apply pw_below_drewN | apply below_drew1) | exact HB.out)))).mono ?_); rintro e w24 ⟨v454, rfl, ho0, hb⟩; refine ⟨_, rfl, ?_⟩; have n0_ := Aside0.mk (Kd.R_elder' (by (with_reducible repeat (first | apply Kd.R_alloc | apply Kd.R_drewN | apply Kd.R_drew)); exact HO445.out) (Kd.R_base ho0) hb); have n1_ := Aside0.mk (Kd.R_elder' (by (with_reducible repeat (first | apply Kd.R_alloc | apply Kd.R_drewN | apply Kd.R_drew)); exact HO450.out) (Kd.R_base ho0) hb); have n2_ := Aside0.mk (Kd.R_lower (Kd.R_new' (Kd.R_new' ho0 (Kd.R_lt (by (with_reducible repeat (first | apply Kd.R_alloc | apply Kd.R_drewN | apply Kd.R_drew)); exact HO445.out))) (Kd.R_lt (by (with_reducible repeat (first | apply Kd.R_alloc | apply Kd.R_drewN | apply Kd.R_drew)); exact HO450.out))) (below_size (by repeat (first | (with_reducible first | exact HB.out | apply below_alloc | apply pw_below_drewN | apply below_drew1) | exact HB.out)))); have n3_ := Aside0.mk (below_step (by repeat (first | (with_reducible first | exact HB.out | apply below_alloc | apply pw_below_drewN | apply below_drew1) | exact HB.out)) hb); clear HO445; clear HO450; clear HB; have HO445 := n0_; have HO450 := n1_; have HO455 := n2_; have HB := n3_; clear n0_ n1_ n2_ n3_; (try clear hb); (try clear hb2); (try clear hk); (try clear hi); (try clear ho0)) | ((with_reducible refine gate_callee (f := 27) rfl ?_); refine goesL_ (some 29) rfl rfl Tryd.func27 (by kernel_rfl) rfl #[.string (⟨#[97, 255]⟩ : ByteArray)] rfl (by (try simp only [List.map_toArray, List.map_cons, List.map_nil]); first | done | rfl | (simp only [List.length_drop, List.length_take]; rfl)) ?_; (with_reducible refine (lex_Tokens.calls k (⟨#[97, 255]⟩ : ByteArray) t456 t457 t458 _ A4.out (HG.out.below HG.out.lt (by repeat (first | (with_reducible first | exact HB.out | apply below_alloc | apply pw_below_drewN | apply below_drew1) | exact HB.out)))).mono ?_); rintro e w25 ⟨v459, rfl, ho0, hb⟩; refine ⟨_, rfl, ?_⟩; have n0_ := Aside0.mk (Kd.R_elder' (by (with_reducible repeat (first | apply Kd.R_alloc | apply Kd.R_drewN | apply Kd.R_drew)); exact HO445.out) (Kd.R_base ho0) hb); have n1_ := Aside0.mk (Kd.R_elder' (by (with_reducible repeat (first | apply Kd.R_alloc | apply Kd.R_drewN | apply Kd.R_drew)); exact HO450.out) (Kd.R_base ho0) hb); have n2_ := Aside0.mk (Kd.R_elder' (by (with_reducible repeat (first | apply Kd.R_alloc | apply Kd.R_drewN | apply Kd.R_drew)); exact HO455.out) (Kd.R_base ho0) hb); have n3_ := Aside0.mk (Kd.R_lower (Kd.R_new' (Kd.R_new' (Kd.R_new' ho0 (Kd.R_lt (by (with_reducible repeat (first | apply Kd.R_alloc | apply Kd.R_drewN | apply Kd.R_drew)); exact HO445.out))) (Kd.R_lt (by (with_reducible repeat (first | apply Kd.R_alloc | apply Kd.R_drewN | apply Kd.R_drew)); exact HO450.out))) (Kd.R_lt (by (with_reducible repeat (first | apply Kd.R_alloc | apply Kd.R_drewN | apply Kd.R_drew)); exact HO455.out))) (below_size (by repeat (first | (with_reducible first | exact HB.out | apply below_alloc | apply pw_below_drewN | apply below_drew1) | exact HB.out)))); have n4_ := Aside0.mk (below_step (by repeat (first | (with_reducible first | exact HB.out | apply below_alloc | apply pw_below_drewN | apply below_drew1) | exact HB.out)) hb); clear HO445; clear HO450; clear HO455; clear HB; have HO445 := n0_; have HO450 := n1_; have HO455 := n2_; have HO460 := n3_; have HB := n4_; clear n0_ n1_ n2_ n3_ n4_; (try clear hb); (try clear hb2); (try clear hk); (try clear hi); (try clear ho0)) | ((with_reducible refine gate_dst (N := 39) rfl ?_); refine Kd.R_lit k60 _ 60 ?hg (N := 39) ?hd (xs := ([(⟨2, (⟨#[108, 101, 116]⟩ : ByteArray), 0, 0⟩ : S60), (⟨0, (⟨#[120, 49]⟩ : ByteArray), 0, 4⟩ : S60), (⟨3, (⟨#[61]⟩ : ByteArray), 0, 7⟩ : S60), (⟨1, (⟨#[]⟩ : ByteArray), 20, 9⟩ : S60), (⟨3, (⟨#[45, 62]⟩ : ByteArray), 0, 17⟩ : S60)] : List (S60))) (inner := [.int .i64 2, .string (⟨#[108, 101, 116]⟩ : ByteArray), .int .i64 0, .int .i64 0, .int .i64 0, .string (⟨#[120, 49]⟩ : ByteArray), .int .i64 0, .int .i64 4, .int .i64 3, .string (⟨#[61]⟩ : ByteArray), .int .i64 0, .int .i64 7, .int .i64 1, .string (⟨#[]⟩ : ByteArray), .int .i64 20, .int .i64 9, .int .i64 3, .string (⟨#[45, 62]⟩ : ByteArray), .int .i64 0, .int .i64 17]) (ok := fun _ => True) (okp := fun _ => True) ?hr ?hp (fun _ hk => hk) trivial (Below.refl _ _) (Nat.le_refl _) (by simp) ?_; (case hd => rfl); (case hg => rfl); (case hr => first | (go_simp; done) | (go_simp; rfl)); (case hp => exact (Reps.c4 (show Kd.M k60 _ _ _ (⟨2, (⟨#[108, 101, 116]⟩ : ByteArray), 0, 0⟩ : S60) [.int .i64 2, .string (⟨#[108, 101, 116]⟩ : ByteArray), .int .i64 0, .int .i64 0] from (k60_mkM _ _ _ (⟨2, (⟨#[108, 101, 116]⟩ : ByteArray), 0, 0⟩ : S60) )) (Reps.c4 (show Kd.M k60 _ _ _ (⟨0, (⟨#[120, 49]⟩ : ByteArray), 0, 4⟩ : S60) [.int .i64 0, .string (⟨#[120, 49]⟩ : ByteArray), .int .i64 0, .int .i64 4] from (k60_mkM _ _ _ (⟨0, (⟨#[120, 49]⟩ : ByteArray), 0, 4⟩ : S60) )) (Reps.c4 (show Kd.M k60 _ _ _ (⟨3, (⟨#[61]⟩ : ByteArray), 0, 7⟩ : S60) [.int .i64 3, .string (⟨#[61]⟩ : ByteArray), .int .i64 0, .int .i64 7] from (k60_mkM _ _ _ (⟨3, (⟨#[61]⟩ : ByteArray), 0, 7⟩ : S60) )) (Reps.c4 (show Kd.M k60 _ _ _ (⟨1, (⟨#[]⟩ : ByteArray), 20, 9⟩ : S60) [.int .i64 1, .string (⟨#[]⟩ : ByteArray), .int .i64 20, .int .i64 9] from (k60_mkM _ _ _ (⟨1, (⟨#[]⟩ : ByteArray), 20, 9⟩ : S60) )) (Reps.c4 (show Kd.M k60 _ _ _ (⟨3, (⟨#[45, 62]⟩ : ByteArray), 0, 17⟩ : S60) [.int .i64 3, .string (⟨#[45, 62]⟩ : ByteArray), .int .i64 0, .int .i64 17] from (k60_mkM _ _ _ (⟨3, (⟨#[45, 62]⟩ : ByteArray), 0, 17⟩ : S60) )) (Reps.none _ _))))))); intro v462 w26 ho27 hb hg_ hnew_; clear hg_ hnew_; (first | rw [← Ny461.out] at ho27 | (simp only [Int.reduceToNat] at ho27; rw [← Ny461.out] at ho27)); have n0_ := Aside0.mk (Kd.R_elder' (by (with_reducible repeat (first | apply Kd.R_alloc | apply Kd.R_drewN | apply Kd.R_drew)); exact HO445.out) (Kd.R_base ho27) hb); have n1_ := Aside0.mk (Kd.R_elder' (by (with_reducible repeat (first | apply Kd.R_alloc | apply Kd.R_drewN | apply Kd.R_drew)); exact HO450.out) (Kd.R_base ho27) hb); have n2_ := Aside0.mk (Kd.R_elder' (by (with_reducible repeat (first | apply Kd.R_alloc | apply Kd.R_drewN | apply Kd.R_drew)); exact HO455.out) (Kd.R_base ho27) hb); have n3_ := Aside0.mk (Kd.R_elder' (by (with_reducible repeat (first | apply Kd.R_alloc | apply Kd.R_drewN | apply Kd.R_drew)); exact HO460.out) (Kd.R_base ho27) hb); have n4_ := Aside0.mk (Kd.R_lower (Kd.R_new' (Kd.R_new' (Kd.R_new' (Kd.R_new' ho27 (Kd.R_lt (by (with_reducible repeat (first | apply Kd.R_alloc | apply Kd.R_drewN | apply Kd.R_drew)); exact HO445.out))) (Kd.R_lt (by (with_reducible repeat (first | apply Kd.R_alloc | apply Kd.R_drewN | apply Kd.R_drew)); exact HO450.out))) (Kd.R_lt (by (with_reducible repeat (first | apply Kd.R_alloc | apply Kd.R_drewN | apply Kd.R_drew)); exact HO455.out))) (Kd.R_lt (by (with_reducible repeat (first | apply Kd.R_alloc | apply Kd.R_drewN | apply Kd.R_drew)); exact HO460.out))) (below_size (by repeat (first | (with_reducible first | exact HB.out | apply below_alloc | apply pw_below_drewN | apply below_drew1) | exact HB.out)))); have n5_ := Aside0.mk (below_step (by repeat (first | (with_reducible first | exact HB.out | apply below_alloc | apply pw_below_drewN | apply below_drew1) | exact HB.out)) hb); clear HO445; clear HO450; clear HO455; clear HO460; clear HB; have HO445 := n0_; have HO450 := n1_; have HO455 := n2_; have HO460 := n3_; have HO463 := n4_; have HB := n5_; clear n0_ n1_ n2_ n3_ n4_ n5_; clear hb ho27; obtain ⟨Ao28, co28, eo28⟩ := Kd.R_slice HO445.out; subst eo28; obtain ⟨Ao29, co29, eo29⟩ := Kd.R_slice HO463.out; subst eo29) | ((with_reducible refine gate_callee (f := 29) rfl ?_); refine goesL_ (some 40) rfl rfl Tryd.func29 (by kernel_rfl) rfl #[.slice Ao28 t441.length co28, .slice Ao29 y461.length co29] rfl (by (try simp only [List.map_toArray, List.map_cons, List.map_nil]); first | done | rfl | (simp only [List.length_drop, List.length_take]; rfl)) ?_; (with_reducible refine (trammellaw0_SameTokens.calls k _ _ t441 _ _ y461 true _ ?side1 ?side2 ?side3 ?side4 A5.out).mono ?_); (case side1 => repeat (first | exact (Kd.R_reads' HO445.out).2.2 | (with_reducible refine Kd.C_alloc ?_ _) | (with_reducible refine Kd.C_drewN ?_ _) | (with_reducible refine Kd.C_drew ?_))); (case side2 => exact (Kd.R_reads' HO445.out).2.1); (case side3 => repeat (first | exact (Kd.R_reads' HO463.out).2.2 | (with_reducible refine Kd.C_alloc ?_ _) | (with_reducible refine Kd.C_drewN ?_ _) | (with_reducible refine Kd.C_drew ?_))); (case side4 => exact (Kd.R_reads' HO463.out).2.1); rintro e w' ⟨rfl, ⟨nd, rfl⟩⟩; refine ⟨_, rfl, ?_⟩) | (go_at_call 18; (with_reducible refine (trammellaw0_Num.calls t443 t465 _ A8.out).mono ?_); rintro e w' ⟨rfl, ⟨nd, rfl⟩⟩) | (go_at_call 18; (with_reducible refine (trammellaw0_Num.calls t448 t466 _ A11.out).mono ?_); rintro e w' ⟨rfl, ⟨nd, rfl⟩⟩) | (go_at_call 18; (with_reducible refine (trammellaw0_Num.calls t453 t467 _ A14.out).mono ?_); rintro e w' ⟨rfl, ⟨nd, rfl⟩⟩) | (go_at_call 18; (with_reducible refine (trammellaw0_Num.calls t458 t468 _ A17.out).mono ?_); rintro e w' ⟨rfl, ⟨nd, rfl⟩⟩) | (go_at_call 30; (with_reducible refine (lex_Keyword.calls k (⟨#[114, 101, 99]⟩ : ByteArray) true _ A19.out).mono ?_); rintro e w30 ⟨rfl, hb⟩; have n0_ := Aside0.mk (Kd.R_below (by (with_reducible repeat (first | apply Kd.R_alloc | apply Kd.R_drewN | apply Kd.R_drew)); exact HO445.out) hb); have n1_ := Aside0.mk (Kd.R_below (by (with_reducible repeat (first | apply Kd.R_alloc | apply Kd.R_drewN | apply Kd.R_drew)); exact HO450.out) hb); have n2_ := Aside0.mk (Kd.R_below (by (with_reducible repeat (first | apply Kd.R_alloc | apply Kd.R_drewN | apply Kd.R_drew)); exact HO455.out) hb); have n3_ := Aside0.mk (Kd.R_below (by (with_reducible repeat (first | apply Kd.R_alloc | apply Kd.R_drewN | apply Kd.R_drew)); exact HO460.out) hb); have n4_ := Aside0.mk (Kd.R_below (by (with_reducible repeat (first | apply Kd.R_alloc | apply Kd.R_drewN | apply Kd.R_drew)); exact HO463.out) hb); have n5_ := Aside0.mk (below_step (by repeat (first | (with_reducible first | exact HB.out | apply below_alloc | apply pw_below_drewN | apply below_drew1) | exact HB.out)) hb); clear HO445; clear HO450; clear HO455; clear HO460; clear HO463; clear HB; have HO445 := n0_; have HO450 := n1_; have HO455 := n2_; have HO460 := n3_; have HO463 := n4_; have HB := n5_; clear n0_ n1_ n2_ n3_ n4_ n5_; (try clear hb); (try clear hb2); (try clear hk); (try clear hi)) | (go_at_call 30; (with_reducible refine (lex_Keyword.calls k (⟨#[114, 101]⟩ : ByteArray) t470 _ A21.out).mono ?_); rintro e w31 ⟨rfl, hb⟩; have n0_ := Aside0.mk (Kd.R_below (by (with_reducible repeat (first | apply Kd.R_alloc | apply Kd.R_drewN | apply Kd.R_drew)); exact HO445.out) hb); have n1_ := Aside0.mk (Kd.R_below (by (with_reducible repeat (first | apply Kd.R_alloc | apply Kd.R_drewN | apply Kd.R_drew)); exact HO450.out) hb); have n2_ := Aside0.mk (Kd.R_below (by (with_reducible repeat (first | apply Kd.R_alloc | apply Kd.R_drewN | apply Kd.R_drew)); exact HO455.out) hb); have n3_ := Aside0.mk (Kd.R_below (by (with_reducible repeat (first | apply Kd.R_alloc | apply Kd.R_drewN | apply Kd.R_drew)); exact HO460.out) hb); have n4_ := Aside0.mk (Kd.R_below (by (with_reducible repeat (first | apply Kd.R_alloc | apply Kd.R_drewN | apply Kd.R_drew)); exact HO463.out) hb); have n5_ := Aside0.mk (below_step (by repeat (first | (with_reducible first | exact HB.out | apply below_alloc | apply pw_below_drewN | apply below_drew1) | exact HB.out)) hb); clear HO445; clear HO450; clear HO455; clear HO460; clear HO463; clear HB; have HO445 := n0_; have HO450 := n1_; have HO455 := n2_; have HO460 := n3_; have HO463 := n4_; have HB := n5_; clear n0_ n1_ n2_ n3_ n4_ n5_; (try clear hb); (try clear hb2); (try clear hk); (try clear hi)))
                      go_ret
                      exact ⟨by first | rfl | (simp [errW_none, errW_some] <;> rfl) | (simp [*, errW_none, errW_some] <;> rfl), by repeat (first | (with_reducible first | exact HB.out | apply below_alloc | apply pw_below_drewN | apply below_drew1) | exact HB.out)⟩
                    · replace c20 := Bool.eq_false_iff.mpr c20
                      subst c20
                      have H1 : (some false) = some r := by rw [if_neg (show ¬ (false = true) by decide)] at H; exact H
                      clear H
                      have H := H1
                      clear H1
                      exact absurd ((Option.some.inj H).trans HTRUE.out) (by decide)
                  · rw [if_neg c18] at H
                    have c18b0 : (t468 == 200) = false := beq_eq_false_iff_ne.mpr c18
                    have c18b1 : (t468 != 200) = true := bne_iff_ne.mpr c18
                    exact absurd ((Option.some.inj H).trans HTRUE.out) (by decide)
                · rw [if_neg c16] at H
                  have c16b0 : (t457 == 1) = false := beq_eq_false_iff_ne.mpr c16
                  have c16b1 : (t457 != 1) = true := bne_iff_ne.mpr c16
                  exact absurd ((Option.some.inj H).trans HTRUE.out) (by decide)
              · rw [if_neg c15] at H
                have c15b0 : (t467 == 202) = false := beq_eq_false_iff_ne.mpr c15
                have c15b1 : (t467 != 202) = true := bne_iff_ne.mpr c15
                exact absurd ((Option.some.inj H).trans HTRUE.out) (by decide)
            · rw [if_neg c13] at H
              have c13b0 : (t452 == 1) = false := beq_eq_false_iff_ne.mpr c13
              have c13b1 : (t452 != 1) = true := bne_iff_ne.mpr c13
              exact absurd ((Option.some.inj H).trans HTRUE.out) (by decide)
          · rw [if_neg c12] at H
            have c12b0 : (t466 == 201) = false := beq_eq_false_iff_ne.mpr c12
            have c12b1 : (t466 != 201) = true := bne_iff_ne.mpr c12
            exact absurd ((Option.some.inj H).trans HTRUE.out) (by decide)
        · rw [if_neg c10] at H
          have c10b0 : (t447 == 2) = false := beq_eq_false_iff_ne.mpr c10
          have c10b1 : (t447 != 2) = true := bne_iff_ne.mpr c10
          exact absurd ((Option.some.inj H).trans HTRUE.out) (by decide)
      · rw [if_neg c9] at H
        have c9b0 : (t465 == 0) = false := beq_eq_false_iff_ne.mpr c9
        have c9b1 : (t465 != 0) = true := bne_iff_ne.mpr c9
        exact absurd ((Option.some.inj H).trans HTRUE.out) (by decide)
    · rw [if_neg c7] at H
      have c7b0 : (t442 == 0) = false := beq_eq_false_iff_ne.mpr c7
      have c7b1 : (t442 != 0) = true := bne_iff_ne.mpr c7
      exact absurd ((Option.some.inj H).trans HTRUE.out) (by decide)
  · replace c6 := Bool.eq_false_iff.mpr c6
    subst c6
    have H1 : (some false) = some r := by rw [if_neg (show ¬ (false = true) by decide)] at H; exact H
    clear H
    have H := H1
    clear H1
    exact absurd ((Option.some.inj H).trans HTRUE.out) (by decide)

-- import Derived.Test.YtnogfhhfklkbiaaDoorHSameT
theorem trammellaw2_awake.is : trammellaw2_awake.f 300 = some true := by
  unfold trammellaw2_awake.f
  simp only [tok_Q, sameT_Q, kw_Q]
  decide +kernel
theorem trammellaw2_awake.det (k : Nat) (r : Bool) (h : trammellaw2_awake.f k = some r) : r = true := by
  have h1 := at_rounds trammellaw2_awake.mono (Nat.le_max_left k 300) h
  have h2 := at_rounds trammellaw2_awake.mono (Nat.le_max_right k 300) trammellaw2_awake.is
  exact Option.some.inj (h1.symm.trans h2)
theorem trammellaw2_awake.calls (k : Nat) (r : Bool) (w : World) (h : trammellaw2_awake.f k = some r) (hG : Err.ErrTy w) :
    Calls Tryd.prog 33 #[] w fun e w' => e = .returned (.bool r) ∧ Below w.heap.size w w' := trammellaw2_awake.callsT k r w (trammellaw2_awake.det k r h) h hG


end Go.Proofs.YtnogfhhfklkbiaaDoor.H

namespace Go.Proofs.YtnogfhhfklkbiaaDoor.Laid
open Go.ChangeShapes Go.WideShapes Go.RowKit
set_option linter.unusedVariables false
theorem own : ownKnob Tryd.prog.godebug = none := by kernel_rfl
def cellsFirst : Array Value := (Pinned.utf8FirstZ.map fun z => Value.int .u8 (z : Nat)).toArray
def cellsAccept : Array Value := (([128, 191, 160, 191, 128, 159, 144, 191, 128, 143] ++ List.replicate 22 0).map fun z => Value.int .u8 ((z : Nat) : Int)).toArray
def putFirst : Obj → Obj
  | .cells _ t frozen => .cells cellsFirst t frozen
  | o => o
def putAccept : Obj → Obj
  | .cells _ t frozen => .cells cellsAccept t frozen
  | o => o
noncomputable def world (os : Os) : World :=
  { World.holding Tryd.prog os ⟨#[], #[], []⟩ with heap := ((World.holding Tryd.prog os ⟨#[], #[], []⟩).heap.modify 2 putFirst).modify 3 putAccept }
set_option maxRecDepth 100000 in
theorem met2 (os : Os) (args : Array Value) : laidMet Tryd.prog [("unicode/utf8.acceptRanges", Rows.laid_unicode_utf8_acceptRanges), ("unicode/utf8.first", Rows.laid_unicode_utf8_first)] ((world os).forCall (fun _ _ => 0) ⟨#[], args, []⟩).memory :=
  laidMet_of_run3 300 (by kernel_rfl) (by kernel_rfl) (by kernel_rfl)
end Go.Proofs.YtnogfhhfklkbiaaDoor.Laid

namespace Go.Proofs.YtnogfhhfklkbiaaDoor.Laid
open Go.ChangeShapes Go.WideShapes Go.RowKit
set_option linter.unusedVariables false
theorem et : Tryd.prog.globalNamed "errors.errorType" = some 0 := by kernel_rfl
theorem rt : (Tryd.prog.cutTypes.find? (·.1 == "internal/reflectlite.rtype")).map (·.2) = some 141 := by kernel_rfl
theorem oneRow : ((List.range 192).filter fun t => Tryd.prog.rowNamed t [101, 114, 114, 111, 114]) = [82] := by kernel_rfl
theorem size : Tryd.prog.types.size = 192 := by kernel_rfl
abbrev listed : List (String × DataW Unit) := [("unicode/utf8.acceptRanges", Rows.laid_unicode_utf8_acceptRanges), ("errors.errorType", Rows.laid_errors_errorType), ("unicode/utf8.first", Rows.laid_unicode_utf8_first)]
theorem listed_plain : (listed.filter fun x => x.2.handleName?.isNone) = [("unicode/utf8.acceptRanges", Rows.laid_unicode_utf8_acceptRanges), ("unicode/utf8.first", Rows.laid_unicode_utf8_first)] := rfl
theorem listed_handles : (listed.filter fun x => x.2.handleName?.isSome) = [("errors.errorType", Rows.laid_errors_errorType)] := rfl
/-- What the list gives a walk: the variable's one cell. -/
theorem errTy_of_laid {W : World} (h : laidMetH Tryd.prog listed W) : Err.ErrTy W := by
  have h' : laidMet Tryd.prog (listed.filter fun x => x.2.handleName?.isNone) W ∧ handlesMet Tryd.prog [("errors.errorType", Rows.laid_errors_errorType)] W := by
    unfold laidMetH at h
    rw [listed_handles] at h
    exact h
  obtain ⟨name, u, ty, e1, e2, e3, e4, e5⟩ := h'.2 _ (List.mem_singleton.2 rfl)
  have en : name = [101, 114, 114, 111, 114] := (Option.some.inj e1).symm
  subst en
  obtain rfl := Option.some.inj (rt.symm.trans e2)
  have hm : ty ∈ (List.range 192).filter fun t => Tryd.prog.rowNamed t [101, 114, 114, 111, 114] := List.mem_filter.2 ⟨List.mem_range.2 (by rw [← size]; exact e3), e4⟩
  rw [oneRow] at hm
  obtain rfl := List.mem_singleton.1 hm
  have hh : typeHandle Tryd.prog 82 = .pointer (some ⟨4, 82, none⟩) := by kernel_rfl
  rw [hh] at e5
  have := World.var?_cell et e5 0
  unfold Err.ErrTy
  simpa using this
def putError : Obj → Obj
  | .cells _ t frozen => .cells #[.iface 141 (.agg #[.pointer (some ⟨4, 82, none⟩)])] t frozen
  | o => o
noncomputable def worldE (os : Os) : World := { world os with heap := (world os).heap.modify 0 putError }
set_option maxRecDepth 100000 in
theorem metE (os : Os) (args : Array Value) : laidMetH Tryd.prog listed ((worldE os).forCall (fun _ _ => 0) ⟨#[], args, []⟩).memory := by
  refine laidMetH_of_parts ?_ ?_
  · rw [listed_plain]
    exact laidMet_of_run3 300 (by kernel_rfl) (by kernel_rfl) (by kernel_rfl)
  · rw [listed_handles]
    kernel_rfl
end Go.Proofs.YtnogfhhfklkbiaaDoor.Laid

namespace Go.Proofs.YtnogfhhfklkbiaaDoor.Joined
open Go
set_option linter.unusedVariables false
theorem three : (Tryd.prog.mayEnter && (Rows.treeChainRow.lifted == Tryd.prog.liftsFinal) && (Tryd.prog.make == some Rows.treeChainRow.make)) = true := by kernel_rfl
theorem mayEnter : Tryd.prog.mayEnter = true := (Bool.and_eq_true _ _ ▸ (Bool.and_eq_true _ _ ▸ three).1).1
theorem lifted : (Rows.treeChainRow.lifted == Tryd.prog.liftsFinal) = true := (Bool.and_eq_true _ _ ▸ (Bool.and_eq_true _ _ ▸ three).1).2
theorem make : (Tryd.prog.make == some Rows.treeChainRow.make) = true := (Bool.and_eq_true _ _ ▸ three).2
theorem laidOut : laidOutB Tryd.prog = true := by kernel_rfl
theorem mapsRowed : mapsRowed Tryd.prog = true := by kernel_rfl
theorem stops : (Tryd.prog.stops == []) = true := by kernel_rfl
theorem stopKnobs : (Tryd.prog.stopKnobs == []) = true := by kernel_rfl
theorem stopsHeard : Tryd.prog.stopsHeard = true := by kernel_rfl
end Go.Proofs.YtnogfhhfklkbiaaDoor.Joined
