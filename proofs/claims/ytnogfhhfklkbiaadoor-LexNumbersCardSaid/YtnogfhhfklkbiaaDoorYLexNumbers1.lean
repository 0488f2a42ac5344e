/- Several texts in one: contracts of functions of the program, and what they lean on. In part written by a program of this session over the kit's print, in part by hand. -/
import Derived.Test.YtnogfhhfklkbiaaDoorL0
import Derived.Test.YtnogfhhfklkbiaaDoorL3
import Derived.Test.YtnogfhhfklkbiaaDoorYLexNumbers0
import Derived.Test.YtnogfhhfklkbiaaDoorL6
namespace Go.Proofs.YtnogfhhfklkbiaaDoor.H
open Go.RowKit Go.Proofs.YtnogfhhfklkbiaaDoorW.PrintWords Go.Proofs.YtnogfhhfklkbiaaDoorW.PrintLast Go.Proofs.YtnogfhhfklkbiaaDoorW.PrintMore
attribute [local go_sem] max2_int min2_int max_two min_two max_three min_three max_four min_four   -- for this text's walks alone
set_option linter.unusedVariables false
set_option linter.unusedSimpArgs false

/-! ### trammellaw2_LexNumbers: function 11 -/
def trammellaw2_LexNumbers.f (k : Nat) (a0 : Int) (a1 : Int) : Option (Bool) := (trammellaw2_awake.f k).bind fun t569 => (if t569 = true then ((trammelref0_Decimal.f k (Go.bits .and .i64 a0 1073741823)).bind fun t570 => (if t570.size + 1 ≤ 9223372036854775807 then ((lex_Tokens.f k (t570 ++ (⟨#[32]⟩ : ByteArray))).bind fun bt571 => (if 2 + t570.size ≤ 9223372036854775807 then ((lex_Tokens.f k ((⟨#[32, 48]⟩ : ByteArray) ++ t570)).bind fun bt576 => ((lex_Tokens.f k (t570 ++ (⟨#[97]⟩ : ByteArray))).bind fun bt581 => ((trammelref0_Decimal.f k (wrap64 (1073741824 + (Go.bits .and .i64 a1 1023)))).bind fun t586 => ((lex_Tokens.f k t586).bind fun bt587 => (if t570.size + 2 ≤ 9223372036854775807 then ((lex_Tokens.f k (t570 ++ (⟨#[95, 32]⟩ : ByteArray))).bind fun bt592 => ((trammellaw0_Num.f bt571.2.2).bind fun t597 => (if t597 = 0 then ((trammellaw0_SameTokens.f k bt571.1 (([(⟨1, (⟨#[]⟩ : ByteArray), Go.bits .and .i64 a0 1073741823, 0⟩ : S60)] : List (S60)))).bind fun t601 => (if t601 = true then (if bt576.2.1 = 1 then ((trammellaw0_Num.f bt576.2.2).bind fun t602 => (if t602 = 202 then (if bt581.2.1 = 0 then ((trammellaw0_Num.f bt581.2.2).bind fun t603 => (if t603 = 202 then (if bt587.2.1 = 0 then ((trammellaw0_Num.f bt587.2.2).bind fun t604 => (if t604 = 202 then (if bt592.2.1 = 0 then ((trammellaw0_Num.f bt592.2.2).bind fun t605 => (some (t605 == 202))) else (some false)) else (some false))) else (some false)) else (some false))) else (some false)) else (some false))) else (some false)) else (some false))) else (some false)))) else (none)))))) else (none))) else (none))) else (some false))
theorem trammellaw2_LexNumbers.mono : ∀ a0 a1 k, LeO (trammellaw2_LexNumbers.f k a0 a1) (trammellaw2_LexNumbers.f (k + 1) a0 a1) := by
  intro a0 a1 k
  unfold trammellaw2_LexNumbers.f
  repeat' first
      | (with_reducible exact lex_Tokens.mono _ _)
      | (with_reducible exact trammellaw0_SameTokens.mono _ _ _)
      | (with_reducible exact trammellaw2_awake.mono _)
      | (with_reducible exact trammelref0_Decimal.mono _ _)
      | (with_reducible exact LeO.refl _)
      | (with_reducible exact LeO.none _)
      | (with_reducible refine LeO.ite ?_ ?_)
      | (with_reducible refine LeO.bind ?_ (fun _ => ?_))
      | exact lex_Tokens.mono _ _
      | exact trammellaw0_SameTokens.mono _ _ _
      | exact trammellaw2_awake.mono _
      | exact trammelref0_Decimal.mono _ _
      | exact LeO.none _
      | refine LeO.ite ?_ ?_
      | refine LeO.bind ?_ (fun _ => ?_)
set_option maxHeartbeats 8000000 in
set_option maxRecDepth 100000 in
theorem trammellaw2_LexNumbers.callsT (k : Nat) (a0 : Int) (a1 : Int) (r : Bool) (w : World) (htrue : r = true) (h : trammellaw2_LexNumbers.f k a0 a1 = some r) (hG : Err.ErrTy w) :
    Calls Tryd.prog 11 #[.int .i64 a0, .int .i64 a1] w fun e w' => e = .returned (.bool r) ∧ Below w.heap.size w w' := by
  have HG := Aside0.mk hG
  clear hG
  have HTRUE := Aside0.mk htrue
  clear htrue
  have hu60 := Tryd.underlying60
  have HB := Aside0.mk (Below.refl w.heap.size w)
  have H : ((trammellaw2_awake.f k).bind fun t569 => (if t569 = true then ((trammelref0_Decimal.f k (Go.bits .and .i64 a0 1073741823)).bind fun t570 => (if t570.size + 1 ≤ 9223372036854775807 then ((lex_Tokens.f k (t570 ++ (⟨#[32]⟩ : ByteArray))).bind fun bt571 => (if 2 + t570.size ≤ 9223372036854775807 then ((lex_Tokens.f k ((⟨#[32, 48]⟩ : ByteArray) ++ t570)).bind fun bt576 => ((lex_Tokens.f k (t570 ++ (⟨#[97]⟩ : ByteArray))).bind fun bt581 => ((trammelref0_Decimal.f k (wrap64 (1073741824 + (Go.bits .and .i64 a1 1023)))).bind fun t586 => ((lex_Tokens.f k t586).bind fun bt587 => (if t570.size + 2 ≤ 9223372036854775807 then ((lex_Tokens.f k (t570 ++ (⟨#[95, 32]⟩ : ByteArray))).bind fun bt592 => ((trammellaw0_Num.f bt571.2.2).bind fun t597 => (if t597 = 0 then ((trammellaw0_SameTokens.f k bt571.1 (([(⟨1, (⟨#[]⟩ : ByteArray), Go.bits .and .i64 a0 1073741823, 0⟩ : S60)] : List (S60)))).bind fun t601 => (if t601 = true then (if bt576.2.1 = 1 then ((trammellaw0_Num.f bt576.2.2).bind fun t602 => (if t602 = 202 then (if bt581.2.1 = 0 then ((trammellaw0_Num.f bt581.2.2).bind fun t603 => (if t603 = 202 then (if bt587.2.1 = 0 then ((trammellaw0_Num.f bt587.2.2).bind fun t604 => (if t604 = 202 then (if bt592.2.1 = 0 then ((trammellaw0_Num.f bt592.2.2).bind fun t605 => (some (t605 == 202))) else (some false)) else (some false))) else (some false)) else (some false))) else (some false)) else (some false))) else (some false)) else (some false))) else (some false)))) else (none)))))) else (none))) else (none))) else (some false))) = some r := h
  clear h
  replace H := Option.bind_eq_some_iff.mp H
  obtain ⟨t569, A30, H⟩ := H
  replace H : (if t569 = true then ((trammelref0_Decimal.f k (Go.bits .and .i64 a0 1073741823)).bind fun t570 => (if t570.size + 1 ≤ 9223372036854775807 then ((lex_Tokens.f k (t570 ++ (⟨#[32]⟩ : ByteArray))).bind fun bt571 => (if 2 + t570.size ≤ 9223372036854775807 then ((lex_Tokens.f k ((⟨#[32, 48]⟩ : ByteArray) ++ t570)).bind fun bt576 => ((lex_Tokens.f k (t570 ++ (⟨#[97]⟩ : ByteArray))).bind fun bt581 => ((trammelref0_Decimal.f k (wrap64 (1073741824 + (Go.bits .and .i64 a1 1023)))).bind fun t586 => ((lex_Tokens.f k t586).bind fun bt587 => (if t570.size + 2 ≤ 9223372036854775807 then ((lex_Tokens.f k (t570 ++ (⟨#[95, 32]⟩ : ByteArray))).bind fun bt592 => ((trammellaw0_Num.f bt571.2.2).bind fun t597 => (if t597 = 0 then ((trammellaw0_SameTokens.f k bt571.1 (([(⟨1, (⟨#[]⟩ : ByteArray), Go.bits .and .i64 a0 1073741823, 0⟩ : S60)] : List (S60)))).bind fun t601 => (if t601 = true then (if bt576.2.1 = 1 then ((trammellaw0_Num.f bt576.2.2).bind fun t602 => (if t602 = 202 then (if bt581.2.1 = 0 then ((trammellaw0_Num.f bt581.2.2).bind fun t603 => (if t603 = 202 then (if bt587.2.1 = 0 then ((trammellaw0_Num.f bt587.2.2).bind fun t604 => (if t604 = 202 then (if bt592.2.1 = 0 then ((trammellaw0_Num.f bt592.2.2).bind fun t605 => (some (t605 == 202))) else (some false)) else (some false))) else (some false)) else (some false))) else (some false)) else (some false))) else (some false)) else (some false))) else (some false)))) else (none)))))) else (none))) else (none))) else (some false)) = some r := H
  have A3 := Aside0.mk A30
  clear A30
  by_cases c4 : t569 = true
  · subst c4
    have H1 : ((trammelref0_Decimal.f k (Go.bits .and .i64 a0 1073741823)).bind fun t570 => (if t570.size + 1 ≤ 9223372036854775807 then ((lex_Tokens.f k (t570 ++ (⟨#[32]⟩ : ByteArray))).bind fun bt571 => (if 2 + t570.size ≤ 9223372036854775807 then ((lex_Tokens.f k ((⟨#[32, 48]⟩ : ByteArray) ++ t570)).bind fun bt576 => ((lex_Tokens.f k (t570 ++ (⟨#[97]⟩ : ByteArray))).bind fun bt581 => ((trammelref0_Decimal.f k (wrap64 (1073741824 + (Go.bits .and .i64 a1 1023)))).bind fun t586 => ((lex_Tokens.f k t586).bind fun bt587 => (if t570.size + 2 ≤ 9223372036854775807 then ((lex_Tokens.f k (t570 ++ (⟨#[95, 32]⟩ : ByteArray))).bind fun bt592 => ((trammellaw0_Num.f bt571.2.2).bind fun t597 => (if t597 = 0 then ((trammellaw0_SameTokens.f k bt571.1 (([(⟨1, (⟨#[]⟩ : ByteArray), Go.bits .and .i64 a0 1073741823, 0⟩ : S60)] : List (S60)))).bind fun t601 => (if t601 = true then (if bt576.2.1 = 1 then ((trammellaw0_Num.f bt576.2.2).bind fun t602 => (if t602 = 202 then (if bt581.2.1 = 0 then ((trammellaw0_Num.f bt581.2.2).bind fun t603 => (if t603 = 202 then (if bt587.2.1 = 0 then ((trammellaw0_Num.f bt587.2.2).bind fun t604 => (if t604 = 202 then (if bt592.2.1 = 0 then ((trammellaw0_Num.f bt592.2.2).bind fun t605 => (some (t605 == 202))) else (some false)) else (some false))) else (some false)) else (some false))) else (some false)) else (some false))) else (some false)) else (some false))) else (some false)))) else (none)))))) else (none))) else (none))) = some r := by rw [if_pos rfl] at H; exact H
    clear H
    have H := H1
    clear H1
    replace H := Option.bind_eq_some_iff.mp H
    obtain ⟨t570, A50, H⟩ := H
    replace H : (if t570.size + 1 ≤ 9223372036854775807 then ((lex_Tokens.f k (t570 ++ (⟨#[32]⟩ : ByteArray))).bind fun bt571 => (if 2 + t570.size ≤ 9223372036854775807 then ((lex_Tokens.f k ((⟨#[32, 48]⟩ : ByteArray) ++ t570)).bind fun bt576 => ((lex_Tokens.f k (t570 ++ (⟨#[97]⟩ : ByteArray))).bind fun bt581 => ((trammelref0_Decimal.f k (wrap64 (1073741824 + (Go.bits .and .i64 a1 1023)))).bind fun t586 => ((lex_Tokens.f k t586).bind fun bt587 => (if t570.size + 2 ≤ 9223372036854775807 then ((lex_Tokens.f k (t570 ++ (⟨#[95, 32]⟩ : ByteArray))).bind fun bt592 => ((trammellaw0_Num.f bt571.2.2).bind fun t597 => (if t597 = 0 then ((trammellaw0_SameTokens.f k bt571.1 (([(⟨1, (⟨#[]⟩ : ByteArray), Go.bits .and .i64 a0 1073741823, 0⟩ : S60)] : List (S60)))).bind fun t601 => (if t601 = true then (if bt576.2.1 = 1 then ((trammellaw0_Num.f bt576.2.2).bind fun t602 => (if t602 = 202 then (if bt581.2.1 = 0 then ((trammellaw0_Num.f bt581.2.2).bind fun t603 => (if t603 = 202 then (if bt587.2.1 = 0 then ((trammellaw0_Num.f bt587.2.2).bind fun t604 => (if t604 = 202 then (if bt592.2.1 = 0 then ((trammellaw0_Num.f bt592.2.2).bind fun t605 => (some (t605 == 202))) else (some false)) else (some false))) else (some false)) else (some false))) else (some false)) else (some false))) else (some false)) else (some false))) else (some false)))) else (none)))))) else (none))) else (none)) = some r := H
    have A5 := Aside0.mk A50
    clear A50
    by_cases c6 : t570.size + 1 ≤ 9223372036854775807
    · rw [if_pos c6] at H
      have c6b0 := eq_true c6
      have c6b1 : decide (t570.size + 1 ≤ 9223372036854775807) = true := decide_eq_true c6
      try have c6b2 : (9223372036854775807 < t570.size + 1) = False := eq_false (Nat.not_lt.2 c6)
      replace H := Option.bind_eq_some_iff.mp H
      obtain ⟨⟨t571, t572, t573⟩, A70, H⟩ := H
      replace H : (if 2 + t570.size ≤ 9223372036854775807 then ((lex_Tokens.f k ((⟨#[32, 48]⟩ : ByteArray) ++ t570)).bind fun bt576 => ((lex_Tokens.f k (t570 ++ (⟨#[97]⟩ : ByteArray))).bind fun bt581 => ((trammelref0_Decimal.f k (wrap64 (1073741824 + (Go.bits .and .i64 a1 1023)))).bind fun t586 => ((lex_Tokens.f k t586).bind fun bt587 => (if t570.size + 2 ≤ 9223372036854775807 then ((lex_Tokens.f k (t570 ++ (⟨#[95, 32]⟩ : ByteArray))).bind fun bt592 => ((trammellaw0_Num.f t573).bind fun t597 => (if t597 = 0 then ((trammellaw0_SameTokens.f k t571 (([(⟨1, (⟨#[]⟩ : ByteArray), Go.bits .and .i64 a0 1073741823, 0⟩ : S60)] : List (S60)))).bind fun t601 => (if t601 = true then (if bt576.2.1 = 1 then ((trammellaw0_Num.f bt576.2.2).bind fun t602 => (if t602 = 202 then (if bt581.2.1 = 0 then ((trammellaw0_Num.f bt581.2.2).bind fun t603 => (if t603 = 202 then (if bt587.2.1 = 0 then ((trammellaw0_Num.f bt587.2.2).bind fun t604 => (if t604 = 202 then (if bt592.2.1 = 0 then ((trammellaw0_Num.f bt592.2.2).bind fun t605 => (some (t605 == 202))) else (some false)) else (some false))) else (some false)) else (some false))) else (some false)) else (some false))) else (some false)) else (some false))) else (some false)))) else (none)))))) else (none)) = some r := H
      have A7 := Aside0.mk A70
      clear A70
      by_cases c8 : 2 + t570.size ≤ 9223372036854775807
      · rw [if_pos c8] at H
        have c8b0 := eq_true c8
        have c8b1 : decide (2 + t570.size ≤ 9223372036854775807) = true := decide_eq_true c8
        try have c8b2 : (9223372036854775807 < 2 + t570.size) = False := eq_false (Nat.not_lt.2 c8)
        replace H := Option.bind_eq_some_iff.mp H
        obtain ⟨⟨t576, t577, t578⟩, A90, H⟩ := H
        replace H : ((lex_Tokens.f k (t570 ++ (⟨#[97]⟩ : ByteArray))).bind fun bt581 => ((trammelref0_Decimal.f k (wrap64 (1073741824 + (Go.bits .and .i64 a1 1023)))).bind fun t586 => ((lex_Tokens.f k t586).bind fun bt587 => (if t570.size + 2 ≤ 9223372036854775807 then ((lex_Tokens.f k (t570 ++ (⟨#[95, 32]⟩ : ByteArray))).bind fun bt592 => ((trammellaw0_Num.f t573).bind fun t597 => (if t597 = 0 then ((trammellaw0_SameTokens.f k t571 (([(⟨1, (⟨#[]⟩ : ByteArray), Go.bits .and .i64 a0 1073741823, 0⟩ : S60)] : List (S60)))).bind fun t601 => (if t601 = true then (if t577 = 1 then ((trammellaw0_Num.f t578).bind fun t602 => (if t602 = 202 then (if bt581.2.1 = 0 then ((trammellaw0_Num.f bt581.2.2).bind fun t603 => (if t603 = 202 then (if bt587.2.1 = 0 then ((trammellaw0_Num.f bt587.2.2).bind fun t604 => (if t604 = 202 then (if bt592.2.1 = 0 then ((trammellaw0_Num.f bt592.2.2).bind fun t605 => (some (t605 == 202))) else (some false)) else (some false))) else (some false)) else (some false))) else (some false)) else (some false))) else (some false)) else (some false))) else (some false)))) else (none))))) = some r := H
        have A9 := Aside0.mk A90
        clear A90
        replace H := Option.bind_eq_some_iff.mp H
        obtain ⟨⟨t581, t582, t583⟩, A100, H⟩ := H
        replace H : ((trammelref0_Decimal.f k (wrap64 (1073741824 + (Go.bits .and .i64 a1 1023)))).bind fun t586 => ((lex_Tokens.f k t586).bind fun bt587 => (if t570.size + 2 ≤ 9223372036854775807 then ((lex_Tokens.f k (t570 ++ (⟨#[95, 32]⟩ : ByteArray))).bind fun bt592 => ((trammellaw0_Num.f t573).bind fun t597 => (if t597 = 0 then ((trammellaw0_SameTokens.f k t571 (([(⟨1, (⟨#[]⟩ : ByteArray), Go.bits .and .i64 a0 1073741823, 0⟩ : S60)] : List (S60)))).bind fun t601 => (if t601 = true then (if t577 = 1 then ((trammellaw0_Num.f t578).bind fun t602 => (if t602 = 202 then (if t582 = 0 then ((trammellaw0_Num.f t583).bind fun t603 => (if t603 = 202 then (if bt587.2.1 = 0 then ((trammellaw0_Num.f bt587.2.2).bind fun t604 => (if t604 = 202 then (if bt592.2.1 = 0 then ((trammellaw0_Num.f bt592.2.2).bind fun t605 => (some (t605 == 202))) else (some false)) else (some false))) else (some false)) else (some false))) else (some false)) else (some false))) else (some false)) else (some false))) else (some false)))) else (none)))) = some r := H
        have A10 := Aside0.mk A100
        clear A100
        replace H := Option.bind_eq_some_iff.mp H
        obtain ⟨t586, A110, H⟩ := H
        replace H : ((lex_Tokens.f k t586).bind fun bt587 => (if t570.size + 2 ≤ 9223372036854775807 then ((lex_Tokens.f k (t570 ++ (⟨#[95, 32]⟩ : ByteArray))).bind fun bt592 => ((trammellaw0_Num.f t573).bind fun t597 => (if t597 = 0 then ((trammellaw0_SameTokens.f k t571 (([(⟨1, (⟨#[]⟩ : ByteArray), Go.bits .and .i64 a0 1073741823, 0⟩ : S60)] : List (S60)))).bind fun t601 => (if t601 = true then (if t577 = 1 then ((trammellaw0_Num.f t578).bind fun t602 => (if t602 = 202 then (if t582 = 0 then ((trammellaw0_Num.f t583).bind fun t603 => (if t603 = 202 then (if bt587.2.1 = 0 then ((trammellaw0_Num.f bt587.2.2).bind fun t604 => (if t604 = 202 then (if bt592.2.1 = 0 then ((trammellaw0_Num.f bt592.2.2).bind fun t605 => (some (t605 == 202))) else (some false)) else (some false))) else (some false)) else (some false))) else (some false)) else (some false))) else (some false)) else (some false))) else (some false)))) else (none))) = some r := H
        have A11 := Aside0.mk A110
        clear A110
        replace H := Option.bind_eq_some_iff.mp H
        obtain ⟨⟨t587, t588, t589⟩, A120, H⟩ := H
        replace H : (if t570.size + 2 ≤ 9223372036854775807 then ((lex_Tokens.f k (t570 ++ (⟨#[95, 32]⟩ : ByteArray))).bind fun bt592 => ((trammellaw0_Num.f t573).bind fun t597 => (if t597 = 0 then ((trammellaw0_SameTokens.f k t571 (([(⟨1, (⟨#[]⟩ : ByteArray), Go.bits .and .i64 a0 1073741823, 0⟩ : S60)] : List (S60)))).bind fun t601 => (if t601 = true then (if t577 = 1 then ((trammellaw0_Num.f t578).bind fun t602 => (if t602 = 202 then (if t582 = 0 then ((trammellaw0_Num.f t583).bind fun t603 => (if t603 = 202 then (if t588 = 0 then ((trammellaw0_Num.f t589).bind fun t604 => (if t604 = 202 then (if bt592.2.1 = 0 then ((trammellaw0_Num.f bt592.2.2).bind fun t605 => (some (t605 == 202))) else (some false)) else (some false))) else (some false)) else (some false))) else (some false)) else (some false))) else (some false)) else (some false))) else (some false)))) else (none)) = some r := H
        have A12 := Aside0.mk A120
        clear A120
        by_cases c13 : t570.size + 2 ≤ 9223372036854775807
        · rw [if_pos c13] at H
          have c13b0 := eq_true c13
          have c13b1 : decide (t570.size + 2 ≤ 9223372036854775807) = true := decide_eq_true c13
          try have c13b2 : (9223372036854775807 < t570.size + 2) = False := eq_false (Nat.not_lt.2 c13)
          replace H := Option.bind_eq_some_iff.mp H
          obtain ⟨⟨t592, t593, t594⟩, A140, H⟩ := H
          replace H : ((trammellaw0_Num.f t573).bind fun t597 => (if t597 = 0 then ((trammellaw0_SameTokens.f k t571 (([(⟨1, (⟨#[]⟩ : ByteArray), Go.bits .and .i64 a0 1073741823, 0⟩ : S60)] : List (S60)))).bind fun t601 => (if t601 = true then (if t577 = 1 then ((trammellaw0_Num.f t578).bind fun t602 => (if t602 = 202 then (if t582 = 0 then ((trammellaw0_Num.f t583).bind fun t603 => (if t603 = 202 then (if t588 = 0 then ((trammellaw0_Num.f t589).bind fun t604 => (if t604 = 202 then (if t593 = 0 then ((trammellaw0_Num.f t594).bind fun t605 => (some (t605 == 202))) else (some false)) else (some false))) else (some false)) else (some false))) else (some false)) else (some false))) else (some false)) else (some false))) else (some false))) = some r := H
          have A14 := Aside0.mk A140
          clear A140
          replace H := Option.bind_eq_some_iff.mp H
          obtain ⟨t597, A150, H⟩ := H
          replace H : (if t597 = 0 then ((trammellaw0_SameTokens.f k t571 (([(⟨1, (⟨#[]⟩ : ByteArray), Go.bits .and .i64 a0 1073741823, 0⟩ : S60)] : List (S60)))).bind fun t601 => (if t601 = true then (if t577 = 1 then ((trammellaw0_Num.f t578).bind fun t602 => (if t602 = 202 then (if t582 = 0 then ((trammellaw0_Num.f t583).bind fun t603 => (if t603 = 202 then (if t588 = 0 then ((trammellaw0_Num.f t589).bind fun t604 => (if t604 = 202 then (if t593 = 0 then ((trammellaw0_Num.f t594).bind fun t605 => (some (t605 == 202))) else (some false)) else (some false))) else (some false)) else (some false))) else (some false)) else (some false))) else (some false)) else (some false))) else (some false)) = some r := H
          have A15 := Aside0.mk A150
          clear A150
          by_cases c16 : t597 = 0
          · rw [if_pos c16] at H
            have c16b0 : (t597 == 0) = true := beq_iff_eq.mpr c16
            have c16b1 : (t597 != 0) = false := bne_eq_false_iff_eq.mpr c16
            clear c16
            obtain ⟨y598, hy598⟩ : ∃ y_ : List (S60), y_ = (([(⟨1, (⟨#[]⟩ : ByteArray), Go.bits .and .i64 a0 1073741823, 0⟩ : S60)] : List (S60))) := ⟨_, rfl⟩
            replace H : ((trammellaw0_SameTokens.f k t571 y598).bind fun t601 => (if t601 = true then (if t577 = 1 then ((trammellaw0_Num.f t578).bind fun t602 => (if t602 = 202 then (if t582 = 0 then ((trammellaw0_Num.f t583).bind fun t603 => (if t603 = 202 then (if t588 = 0 then ((trammellaw0_Num.f t589).bind fun t604 => (if t604 = 202 then (if t593 = 0 then ((trammellaw0_Num.f t594).bind fun t605 => (some (t605 == 202))) else (some false)) else (some false))) else (some false)) else (some false))) else (some false)) else (some false))) else (some false)) else (some false))) = some r := by first | (rw [hy598]; with_reducible exact H) | (have H2_ := (Option.bind_some _ _).symm.trans H; rw [hy598]; with_reducible exact H2_) | (have H2_ := (Option.bind_some _ _).symm.trans H; with_reducible exact H2_) | with_reducible exact H | (rw [hy598]; exact H) | exact H
            have Ny598 := Aside0.mk hy598
            clear hy598
            replace H := Option.bind_eq_some_iff.mp H
            obtain ⟨t601, A170, H⟩ := H
            replace H : (if t601 = true then (if t577 = 1 then ((trammellaw0_Num.f t578).bind fun t602 => (if t602 = 202 then (if t582 = 0 then ((trammellaw0_Num.f t583).bind fun t603 => (if t603 = 202 then (if t588 = 0 then ((trammellaw0_Num.f t589).bind fun t604 => (if t604 = 202 then (if t593 = 0 then ((trammellaw0_Num.f t594).bind fun t605 => (some (t605 == 202))) else (some false)) else (some false))) else (some false)) else (some false))) else (some false)) else (some false))) else (some false)) else (some false)) = some r := H
            have A17 := Aside0.mk A170
            clear A170
            by_cases c18 : t601 = true
            · subst c18
              have H1 : (if t577 = 1 then ((trammellaw0_Num.f t578).bind fun t602 => (if t602 = 202 then (if t582 = 0 then ((trammellaw0_Num.f t583).bind fun t603 => (if t603 = 202 then (if t588 = 0 then ((trammellaw0_Num.f t589).bind fun t604 => (if t604 = 202 then (if t593 = 0 then ((trammellaw0_Num.f t594).bind fun t605 => (some (t605 == 202))) else (some false)) else (some false))) else (some false)) else (some false))) else (some false)) else (some false))) else (some false)) = some r := by rw [if_pos rfl] at H; exact H
              clear H
              have H := H1
              clear H1
              by_cases c19 : t577 = 1
              · rw [if_pos c19] at H
                have c19b0 : (t577 == 1) = true := beq_iff_eq.mpr c19
                have c19b1 : (t577 != 1) = false := bne_eq_false_iff_eq.mpr c19
                clear c19
                replace H := Option.bind_eq_some_iff.mp H
                obtain ⟨t602, A200, H⟩ := H
                replace H : (if t602 = 202 then (if t582 = 0 then ((trammellaw0_Num.f t583).bind fun t603 => (if t603 = 202 then (if t588 = 0 then ((trammellaw0_Num.f t589).bind fun t604 => (if t604 = 202 then (if t593 = 0 then ((trammellaw0_Num.f t594).bind fun t605 => (some (t605 == 202))) else (some false)) else (some false))) else (some false)) else (some false))) else (some false)) else (some false)) = some r := H
                have A20 := Aside0.mk A200
                clear A200
                by_cases c21 : t602 = 202
                · rw [if_pos c21] at H
                  have c21b0 : (t602 == 202) = true := beq_iff_eq.mpr c21
                  have c21b1 : (t602 != 202) = false := bne_eq_false_iff_eq.mpr c21
                  clear c21
                  by_cases c22 : t582 = 0
                  · rw [if_pos c22] at H
                    have c22b0 : (t582 == 0) = true := beq_iff_eq.mpr c22
                    have c22b1 : (t582 != 0) = false := bne_eq_false_iff_eq.mpr c22
                    clear c22
                    replace H := Option.bind_eq_some_iff.mp H
                    obtain ⟨t603, A230, H⟩ := H
                    replace H : (if t603 = 202 then (if t588 = 0 then ((trammellaw0_Num.f t589).bind fun t604 => (if t604 = 202 then (if t593 = 0 then ((trammellaw0_Num.f t594).bind fun t605 => (some (t605 == 202))) else (some false)) else (some false))) else (some false)) else (some false)) = some r := H
                    have A23 := Aside0.mk A230
                    clear A230
                    by_cases c24 : t603 = 202
                    · rw [if_pos c24] at H
                      have c24b0 : (t603 == 202) = true := beq_iff_eq.mpr c24
                      have c24b1 : (t603 != 202) = false := bne_eq_false_iff_eq.mpr c24
                      clear c24
                      by_cases c25 : t588 = 0
                      · rw [if_pos c25] at H
                        have c25b0 : (t588 == 0) = true := beq_iff_eq.mpr c25
                        have c25b1 : (t588 != 0) = false := bne_eq_false_iff_eq.mpr c25
                        clear c25
                        replace H := Option.bind_eq_some_iff.mp H
                        obtain ⟨t604, A260, H⟩ := H
                        replace H : (if t604 = 202 then (if t593 = 0 then ((trammellaw0_Num.f t594).bind fun t605 => (some (t605 == 202))) else (some false)) else (some false)) = some r := H
                        have A26 := Aside0.mk A260
                        clear A260
                        by_cases c27 : t604 = 202
                        · rw [if_pos c27] at H
                          have c27b0 : (t604 == 202) = true := beq_iff_eq.mpr c27
                          have c27b1 : (t604 != 202) = false := bne_eq_false_iff_eq.mpr c27
                          clear c27
                          by_cases c28 : t593 = 0
                          · rw [if_pos c28] at H
                            have c28b0 : (t593 == 0) = true := beq_iff_eq.mpr c28
                            have c28b1 : (t593 != 0) = false := bne_eq_false_iff_eq.mpr c28
                            clear c28
                            replace H := Option.bind_eq_some_iff.mp H
                            obtain ⟨t605, A290, H⟩ := H
                            replace H : (some (t605 == 202)) = some r := H
                            have A29 := Aside0.mk A290
                            clear A290
                            obtain rfl := Option.some.inj H
                            go_enter Tryd.func11, Tryd.ntmps11
                            go_wp2_with (first | ((with_reducible refine gate_callee (f := 33) rfl ?_); refine goesL_ (some 22) rfl rfl Tryd.func33 (by kernel_rfl) rfl #[] rfl (by (try simp only [List.map_toArray, List.map_cons, List.map_nil]); first | done | rfl | (simp only [List.length_drop, List.length_take]; rfl)) ?_; (with_reducible refine (trammellaw2_awake.calls k  true _ A3.out (HG.out.below HG.out.lt (by repeat (first | (with_reducible first | exact HB.out | apply below_alloc | apply pw_below_drewN | apply below_drew1) | exact HB.out)))).mono ?_); rintro e w30 ⟨rfl, hb⟩; refine ⟨_, rfl, ?_⟩; have n0_ := Aside0.mk (below_step (by repeat (first | (with_reducible first | exact HB.out | apply below_alloc | apply pw_below_drewN | apply below_drew1) | exact HB.out)) hb); clear HB; have HB := n0_; clear n0_; (try clear hb); (try clear hb2); (try clear hk); (try clear hi)) | ((with_reducible refine gate_callee (f := 34) rfl ?_); refine goesL_ (some 27) rfl rfl Tryd.func34 (by kernel_rfl) rfl #[.int .i64 (Go.bits .and .i64 a0 1073741823)] rfl (by (try simp only [List.map_toArray, List.map_cons, List.map_nil]); first | done | rfl | (simp only [List.length_drop, List.length_take]; rfl)) ?_; (with_reducible refine (trammelref0_Decimal.calls k (Go.bits .and .i64 a0 1073741823) t570 _ A5.out).mono ?_); rintro e w31 ⟨rfl, hb⟩; refine ⟨_, rfl, ?_⟩; have n0_ := Aside0.mk (below_step (by repeat (first | (with_reducible first | exact HB.out | apply below_alloc | apply pw_below_drewN | apply below_drew1) | exact HB.out)) hb); clear HB; have HB := n0_; clear n0_; (try clear hb); (try clear hb2); (try clear hk); (try clear hi)) | ((with_reducible refine gate_callee (f := 27) rfl ?_); refine goesL_ (some 31) rfl rfl Tryd.func27 (by kernel_rfl) rfl #[.string (t570 ++ (⟨#[32]⟩ : ByteArray))] rfl (by (try simp only [List.map_toArray, List.map_cons, List.map_nil]); first | done | rfl | (simp only [List.length_drop, List.length_take]; rfl)) ?_; (with_reducible refine (lex_Tokens.calls k (t570 ++ (⟨#[32]⟩ : ByteArray)) t571 t572 t573 _ A7.out (HG.out.below HG.out.lt (by repeat (first | (with_reducible first | exact HB.out | apply below_alloc | apply pw_below_drewN | apply below_drew1) | exact HB.out)))).mono ?_); rintro e w32 ⟨v574, rfl, ho0, hb⟩; refine ⟨_, rfl, ?_⟩; have n0_ := Aside0.mk (Kd.R_lower ho0 (below_size (by repeat (first | (with_reducible first | exact HB.out | apply below_alloc | apply pw_below_drewN | apply below_drew1) | exact HB.out)))); have n1_ := Aside0.mk (below_step (by repeat (first | (with_reducible first | exact HB.out | apply below_alloc | apply pw_below_drewN | apply below_drew1) | exact HB.out)) hb); clear HB; have HO575 := n0_; have HB := n1_; clear n0_ n1_; (try clear hb); (try clear hb2); (try clear hk); (try clear hi); (try clear ho0)) | ((with_reducible refine gate_callee (f := 27) rfl ?_); refine goesL_ (some 38) rfl rfl Tryd.func27 (by kernel_rfl) rfl #[.string ((⟨#[32, 48]⟩ : ByteArray) ++ t570)] rfl (by (try simp only [List.map_toArray, List.map_cons, List.map_nil]); first | done | rfl | (simp only [List.length_drop, List.length_take]; rfl)) ?_; (with_reducible refine (lex_Tokens.calls k ((⟨#[32, 48]⟩ : ByteArray) ++ t570) t576 t577 t578 _ A9.out (HG.out.below HG.out.lt (by repeat (first | (with_reducible first | exact HB.out | apply below_alloc | apply pw_below_drewN | apply below_drew1) | exact HB.out)))).mono ?_); rintro e w33 ⟨v579, rfl, ho0, hb⟩; refine ⟨_, rfl, ?_⟩; have n0_ := Aside0.mk (Kd.R_elder' (by (with_reducible repeat (first | apply Kd.R_alloc | apply Kd.R_drewN | apply Kd.R_drew)); exact HO575.out) (Kd.R_base ho0) hb); have n1_ := Aside0.mk (Kd.R_lower (Kd.R_new' ho0 (Kd.R_lt (by (with_reducible repeat (first | apply Kd.R_alloc | apply Kd.R_drewN | apply Kd.R_drew)); exact HO575.out))) (below_size (by repeat (first | (with_reducible first | exact HB.out | apply below_alloc | apply pw_below_drewN | apply below_drew1) | exact HB.out)))); have n2_ := Aside0.mk (below_step (by repeat (first | (with_reducible first | exact HB.out | apply below_alloc | apply pw_below_drewN | apply below_drew1) | exact HB.out)) hb); clear HO575; clear HB; have HO575 := n0_; have HO580 := n1_; have HB := n2_; clear n0_ n1_ n2_; (try clear hb); (try clear hb2); (try clear hk); (try clear hi); (try clear ho0)) | ((with_reducible refine gate_callee (f := 27) rfl ?_); refine goesL_ (some 45) rfl rfl Tryd.func27 (by kernel_rfl) rfl #[.string (t570 ++ (⟨#[97]⟩ : ByteArray))] rfl (by (try simp only [List.map_toArray, List.map_cons, List.map_nil]); first | done | rfl | (simp only [List.length_drop, List.length_take]; rfl)) ?_; (with_reducible refine (lex_Tokens.calls k (t570 ++ (⟨#[97]⟩ : ByteArray)) t581 t582 t583 _ A10.out (HG.out.below HG.out.lt (by repeat (first | (with_reducible first | exact HB.out | apply below_alloc | apply pw_below_drewN | apply below_drew1) | exact HB.out)))).mono ?_); rintro e w34 ⟨v584, rfl, ho0, hb⟩; refine ⟨_, rfl, ?_⟩; have n0_ := Aside0.mk (Kd.R_elder' (by (with_reducible repeat (first | apply Kd.R_alloc | apply Kd.R_drewN | apply Kd.R_drew)); exact HO575.out) (Kd.R_base ho0) hb); have n1_ := Aside0.mk (Kd.R_elder' (by (with_reducible repeat (first | apply Kd.R_alloc | apply Kd.R_drewN | apply Kd.R_drew)); exact HO580.out) (Kd.R_base ho0) hb); have n2_ := Aside0.mk (Kd.R_lower (Kd.R_new' (Kd.R_new' ho0 (Kd.R_lt (by (with_reducible repeat (first | apply Kd.R_alloc | apply Kd.R_drewN | apply Kd.R_drew)); exact HO575.out))) (Kd.R_lt (by (with_reducible repeat (first | apply Kd.R_alloc | apply Kd.R_drewN | apply Kd.R_drew)); exact HO580.out))) (below_size (by repeat (first | (with_reducible first | exact HB.out | apply below_alloc | apply pw_below_drewN | apply below_drew1) | exact HB.out)))); have n3_ := Aside0.mk (below_step (by repeat (first | (with_reducible first | exact HB.out | apply below_alloc | apply pw_below_drewN | apply below_drew1) | exact HB.out)) hb); clear HO575; clear HO580; clear HB; have HO575 := n0_; have HO580 := n1_; have HO585 := n2_; have HB := n3_; clear n0_ n1_ n2_ n3_; (try clear hb); (try clear hb2); (try clear hk); (try clear hi); (try clear ho0)) | ((with_reducible refine gate_callee (f := 34) rfl ?_); refine goesL_ (some 53) rfl rfl Tryd.func34 (by kernel_rfl) rfl #[.int .i64 (wrap64 (1073741824 + (Go.bits .and .i64 a1 1023)))] rfl (by (try simp only [List.map_toArray, List.map_cons, List.map_nil]); first | done | rfl | (simp only [List.length_drop, List.length_take]; rfl)) ?_; (with_reducible refine (trammelref0_Decimal.calls k (wrap64 (1073741824 + (Go.bits .and .i64 a1 1023))) t586 _ A11.out).mono ?_); rintro e w35 ⟨rfl, hb⟩; refine ⟨_, rfl, ?_⟩; have n0_ := Aside0.mk (Kd.R_below (by (with_reducible repeat (first | apply Kd.R_alloc | apply Kd.R_drewN | apply Kd.R_drew)); exact HO575.out) hb); have n1_ := Aside0.mk (Kd.R_below (by (with_reducible repeat (first | apply Kd.R_alloc | apply Kd.R_drewN | apply Kd.R_drew)); exact HO580.out) hb); have n2_ := Aside0.mk (Kd.R_below (by (with_reducible repeat (first | apply Kd.R_alloc | apply Kd.R_drewN | apply Kd.R_drew)); exact HO585.out) hb); have n3_ := Aside0.mk (below_step (by repeat (first | (with_reducible first | exact HB.out | apply below_alloc | apply pw_below_drewN | apply below_drew1) | exact HB.out)) hb); clear HO575; clear HO580; clear HO585; clear HB; have HO575 := n0_; have HO580 := n1_; have HO585 := n2_; have HB := n3_; clear n0_ n1_ n2_ n3_; (try clear hb); (try clear hb2); (try clear hk); (try clear hi)) | ((with_reducible refine gate_callee (f := 27) rfl ?_); refine goesL_ (some 54) rfl rfl Tryd.func27 (by kernel_rfl) rfl #[.string t586] rfl (by (try simp only [List.map_toArray, List.map_cons, List.map_nil]); first | done | rfl | (simp only [List.length_drop, List.length_take]; rfl)) ?_; (with_reducible refine (lex_Tokens.calls k t586 t587 t588 t589 _ A12.out (HG.out.below HG.out.lt (by repeat (first | (with_reducible first | exact HB.out | apply below_alloc | apply pw_below_drewN | apply below_drew1) | exact HB.out)))).mono ?_); rintro e w36 ⟨v590, rfl, ho0, hb⟩; refine ⟨_, rfl, ?_⟩; have n0_ := Aside0.mk (Kd.R_elder' (by (with_reducible repeat (first | apply Kd.R_alloc | apply Kd.R_drewN | apply Kd.R_drew)); exact HO575.out) (Kd.R_base ho0) hb); have n1_ := Aside0.mk (Kd.R_elder' (by (with_reducible repeat (first | apply Kd.R_alloc | apply Kd.R_drewN | apply Kd.R_drew)); exact HO580.out) (Kd.R_base ho0) hb); have n2_ := Aside0.mk (Kd.R_elder' (by (with_reducible repeat (first | apply Kd.R_alloc | apply Kd.R_drewN | apply Kd.R_drew)); exact HO585.out) (Kd.R_base ho0) hb); have n3_ := Aside0.mk (Kd.R_lower (Kd.R_new' (Kd.R_new' (Kd.R_new' ho0 (Kd.R_lt (by (with_reducible repeat (first | apply Kd.R_alloc | apply Kd.R_drewN | apply Kd.R_drew)); exact HO575.out))) (Kd.R_lt (by (with_reducible repeat (first | apply Kd.R_alloc | apply Kd.R_drewN | apply Kd.R_drew)); exact HO580.out))) (Kd.R_lt (by (with_reducible repeat (first | apply Kd.R_alloc | apply Kd.R_drewN | apply Kd.R_drew)); exact HO585.out))) (below_size (by repeat (first | (with_reducible first | exact HB.out | apply below_alloc | apply pw_below_drewN | apply below_drew1) | exact HB.out)))); have n4_ := Aside0.mk (below_step (by repeat (first | (with_reducible first | exact HB.out | apply below_alloc | apply pw_below_drewN | apply below_drew1) | exact HB.out)) hb); clear HO575; clear HO580; clear HO585; clear HB; have HO575 := n0_; have HO580 := n1_; have HO585 := n2_; have HO591 := n3_; have HB := n4_; clear n0_ n1_ n2_ n3_ n4_; (try clear hb); (try clear hb2); (try clear hk); (try clear hi); (try clear ho0)) | ((with_reducible refine gate_callee (f := 27) rfl ?_); refine goesL_ (some 61) rfl rfl Tryd.func27 (by kernel_rfl) rfl #[.string (t570 ++ (⟨#[95, 32]⟩ : ByteArray))] rfl (by (try simp only [List.map_toArray, List.map_cons, List.map_nil]); first | done | rfl | (simp only [List.length_drop, List.length_take]; rfl)) ?_; (with_reducible refine (lex_Tokens.calls k (t570 ++ (⟨#[95, 32]⟩ : ByteArray)) t592 t593 t594 _ A14.out (HG.out.below HG.out.lt (by repeat (first | (with_reducible first | exact HB.out | apply below_alloc | apply pw_below_drewN | apply below_drew1) | exact HB.out)))).mono ?_); rintro e w37 ⟨v595, rfl, ho0, hb⟩; refine ⟨_, rfl, ?_⟩; have n0_ := Aside0.mk (Kd.R_elder' (by (with_reducible repeat (first | apply Kd.R_alloc | apply Kd.R_drewN | apply Kd.R_drew)); exact HO575.out) (Kd.R_base ho0) hb); have n1_ := Aside0.mk (Kd.R_elder' (by (with_reducible repeat (first | apply Kd.R_alloc | apply Kd.R_drewN | apply Kd.R_drew)); exact HO580.out) (Kd.R_base ho0) hb); have n2_ := Aside0.mk (Kd.R_elder' (by (with_reducible repeat (first | apply Kd.R_alloc | apply Kd.R_drewN | apply Kd.R_drew)); exact HO585.out) (Kd.R_base ho0) hb); have n3_ := Aside0.mk (Kd.R_elder' (by (with_reducible repeat (first | apply Kd.R_alloc | apply Kd.R_drewN | apply Kd.R_drew)); exact HO591.out) (Kd.R_base ho0) hb); have n4_ := Aside0.mk (Kd.R_lower (Kd.R_new' (Kd.R_new' (Kd.R_new' (Kd.R_new' ho0 (Kd.R_lt (by (with_reducible repeat (first | apply Kd.R_alloc | apply Kd.R_drewN | apply Kd.R_drew)); exact HO575.out))) (Kd.R_lt (by (with_reducible repeat (first | apply Kd.R_alloc | apply Kd.R_drewN | apply Kd.R_drew)); exact HO580.out))) (Kd.R_lt (by (with_reducible repeat (first | apply Kd.R_alloc | apply Kd.R_drewN | apply Kd.R_drew)); exact HO585.out))) (Kd.R_lt (by (with_reducible repeat (first | apply Kd.R_alloc | apply Kd.R_drewN | apply Kd.R_drew)); exact HO591.out))) (below_size (by repeat (first | (with_reducible first | exact HB.out | apply below_alloc | apply pw_below_drewN | apply below_drew1) | exact HB.out)))); have n5_ := Aside0.mk (below_step (by repeat (first | (with_reducible first | exact HB.out | apply below_alloc | apply pw_below_drewN | apply below_drew1) | exact HB.out)) hb); clear HO575; clear HO580; clear HO585; clear HO591; clear HB; have HO575 := n0_; have HO580 := n1_; have HO585 := n2_; have HO591 := n3_; have HO596 := n4_; have HB := n5_; clear n0_ n1_ n2_ n3_ n4_ n5_; (try clear hb); (try clear hb2); (try clear hk); (try clear hi); (try clear ho0)) | ((with_reducible refine gate_callee (f := 18) rfl ?_); refine goesL_ (some 66) rfl rfl Tryd.func18 (by kernel_rfl) rfl #[.int .i64 t573] rfl (by (try simp only [List.map_toArray, List.map_cons, List.map_nil]); first | done | rfl | (simp only [List.length_drop, List.length_take]; rfl)) ?_; (with_reducible refine (trammellaw0_Num.calls t573 t597 _ A15.out).mono ?_); rintro e w' ⟨rfl, ⟨nd, rfl⟩⟩; refine ⟨_, rfl, ?_⟩) | ((with_reducible refine gate_dst (N := 72) rfl ?_); (try (refine gate_guard (by rfl) ?_; dsimp only)); refine Kd.R_lit k60 _ 60 ?hg (N := 72) ?hd (xs := ([(⟨1, (⟨#[]⟩ : ByteArray), Go.bits .and .i64 a0 1073741823, 0⟩ : S60)] : List (S60))) (inner := [.int .i64 1, .string (⟨#[]⟩ : ByteArray), .int .i64 (Go.bits .and .i64 a0 1073741823), .int .i64 0]) (ok := fun _ => True) (okp := fun _ => True) ?hr ?hp (fun _ hk => hk) trivial (Below.refl _ _) (Nat.le_refl _) (by simp) ?_; (case hd => rfl); (case hg => rfl); (case hr => first | (go_simp; done) | (go_simp; rfl)); (case hp => exact (Reps.c4 (show Kd.M k60 _ _ _ (⟨1, (⟨#[]⟩ : ByteArray), Go.bits .and .i64 a0 1073741823, 0⟩ : S60) [.int .i64 1, .string (⟨#[]⟩ : ByteArray), .int .i64 (Go.bits .and .i64 a0 1073741823), .int .i64 0] from (k60_mkM _ _ _ (⟨1, (⟨#[]⟩ : ByteArray), Go.bits .and .i64 a0 1073741823, 0⟩ : S60) )) (Reps.none _ _))); intro v599 w38 ho39 hb hg_ hnew_; clear hg_ hnew_; (first | rw [← Ny598.out] at ho39 | (simp only [Int.reduceToNat] at ho39; rw [← Ny598.out] at ho39)); have n0_ := Aside0.mk (Kd.R_elder' (by (with_reducible repeat (first | apply Kd.R_alloc | apply Kd.R_drewN | apply Kd.R_drew)); exact HO575.out) (Kd.R_base ho39) hb); have n1_ := Aside0.mk (Kd.R_elder' (by (with_reducible repeat (first | apply Kd.R_alloc | apply Kd.R_drewN | apply Kd.R_drew)); exact HO580.out) (Kd.R_base ho39) hb); have n2_ := Aside0.mk (Kd.R_elder' (by (with_reducible repeat (first | apply Kd.R_alloc | apply Kd.R_drewN | apply Kd.R_drew)); exact HO585.out) (Kd.R_base ho39) hb); have n3_ := Aside0.mk (Kd.R_elder' (by (with_reducible repeat (first | apply Kd.R_alloc | apply Kd.R_drewN | apply Kd.R_drew)); exact HO591.out) (Kd.R_base ho39) hb); have n4_ := Aside0.mk (Kd.R_elder' (by (with_reducible repeat (first | apply Kd.R_alloc | apply Kd.R_drewN | apply Kd.R_drew)); exact HO596.out) (Kd.R_base ho39) hb); have n5_ := Aside0.mk (Kd.R_lower (Kd.R_new' (Kd.R_new' (Kd.R_new' (Kd.R_new' (Kd.R_new' ho39 (Kd.R_lt (by (with_reducible repeat (first | apply Kd.R_alloc | apply Kd.R_drewN | apply Kd.R_drew)); exact HO575.out))) (Kd.R_lt (by (with_reducible repeat (first | apply Kd.R_alloc | apply Kd.R_drewN | apply Kd.R_drew)); exact HO580.out))) (Kd.R_lt (by (with_reducible repeat (first | apply Kd.R_alloc | apply Kd.R_drewN | apply Kd.R_drew)); exact HO585.out))) (Kd.R_lt (by (with_reducible repeat (first | apply Kd.R_alloc | apply Kd.R_drewN | apply Kd.R_drew)); exact HO591.out))) (Kd.R_lt (by (with_reducible repeat (first | apply Kd.R_alloc | apply Kd.R_drewN | apply Kd.R_drew)); exact HO596.out))) (below_size (by repeat (first | (with_reducible first | exact HB.out | apply below_alloc | apply pw_below_drewN | apply below_drew1) | exact HB.out)))); have n6_ := Aside0.mk (below_step (by repeat (first | (with_reducible first | exact HB.out | apply below_alloc | apply pw_below_drewN | apply below_drew1) | exact HB.out)) hb); clear HO575; clear HO580; clear HO585; clear HO591; clear HO596; clear HB; have HO575 := n0_; have HO580 := n1_; have HO585 := n2_; have HO591 := n3_; have HO596 := n4_; have HO600 := n5_; have HB := n6_; clear n0_ n1_ n2_ n3_ n4_ n5_ n6_; clear hb ho39; obtain ⟨Ao40, co40, eo40⟩ := Kd.R_slice HO575.out; subst eo40; obtain ⟨Ao41, co41, eo41⟩ := Kd.R_slice HO600.out; subst eo41) | (go_at_call 29; (with_reducible refine (trammellaw0_SameTokens.calls k _ _ t571 _ _ y598 true _ ?side1 ?side2 ?side3 ?side4 A17.out).mono ?_); (case side1 => repeat (first | exact (Kd.R_reads' HO575.out).2.2 | (with_reducible refine Kd.C_alloc ?_ _) | (with_reducible refine Kd.C_drewN ?_ _) | (with_reducible refine Kd.C_drew ?_))); (case side2 => exact (Kd.R_reads' HO575.out).2.1); (case side3 => repeat (first | exact (Kd.R_reads' HO600.out).2.2 | (with_reducible refine Kd.C_alloc ?_ _) | (with_reducible refine Kd.C_drewN ?_ _) | (with_reducible refine Kd.C_drew ?_))); (case side4 => exact (Kd.R_reads' HO600.out).2.1); rintro e w' ⟨rfl, ⟨nd, rfl⟩⟩) | (go_at_call 18; (with_reducible refine (trammellaw0_Num.calls t578 t602 _ A20.out).mono ?_); rintro e w' ⟨rfl, ⟨nd, rfl⟩⟩) | (go_at_call 18; (with_reducible refine (trammellaw0_Num.calls t583 t603 _ A23.out).mono ?_); rintro e w' ⟨rfl, ⟨nd, rfl⟩⟩) | (go_at_call 18; (with_reducible refine (trammellaw0_Num.calls t589 t604 _ A26.out).mono ?_); rintro e w' ⟨rfl, ⟨nd, rfl⟩⟩) | (go_at_call 18; (with_reducible refine (trammellaw0_Num.calls t594 t605 _ A29.out).mono ?_); rintro e w' ⟨rfl, ⟨nd, rfl⟩⟩))
                            go_ret
                            exact ⟨by first | rfl | (simp [errW_none, errW_some] <;> rfl) | (simp [*, errW_none, errW_some] <;> rfl), by repeat (first | (with_reducible first | exact HB.out | apply below_alloc | apply pw_below_drewN | apply below_drew1) | exact HB.out)⟩
                          · rw [if_neg c28] at H
                            have c28b0 : (t593 == 0) = false := beq_eq_false_iff_ne.mpr c28
                            have c28b1 : (t593 != 0) = true := bne_iff_ne.mpr c28
                            exact absurd ((Option.some.inj H).trans HTRUE.out) (by decide)
                        · rw [if_neg c27] at H
                          have c27b0 : (t604 == 202) = false := beq_eq_false_iff_ne.mpr c27
                          have c27b1 : (t604 != 202) = true := bne_iff_ne.mpr c27
                          exact absurd ((Option.some.inj H).trans HTRUE.out) (by decide)
                      · rw [if_neg c25] at H
                        have c25b0 : (t588 == 0) = false := beq_eq_false_iff_ne.mpr c25
                        have c25b1 : (t588 != 0) = true := bne_iff_ne.mpr c25
                        exact absurd ((Option.some.inj H).trans HTRUE.out) (by decide)
                    · rw [if_neg c24] at H
                      have c24b0 : (t603 == 202) = false := beq_eq_false_iff_ne.mpr c24
                      have c24b1 : (t603 != 202) = true := bne_iff_ne.mpr c24
                      exact absurd ((Option.some.inj H).trans HTRUE.out) (by decide)
                  · rw [if_neg c22] at H
                    have c22b0 : (t582 == 0) = false := beq_eq_false_iff_ne.mpr c22
                    have c22b1 : (t582 != 0) = true := bne_iff_ne.mpr c22
                    exact absurd ((Option.some.inj H).trans HTRUE.out) (by decide)
                · rw [if_neg c21] at H
                  have c21b0 : (t602 == 202) = false := beq_eq_false_iff_ne.mpr c21
                  have c21b1 : (t602 != 202) = true := bne_iff_ne.mpr c21
                  exact absurd ((Option.some.inj H).trans HTRUE.out) (by decide)
              · rw [if_neg c19] at H
                have c19b0 : (t577 == 1) = false := beq_eq_false_iff_ne.mpr c19
                have c19b1 : (t577 != 1) = true := bne_iff_ne.mpr c19
                exact absurd ((Option.some.inj H).trans HTRUE.out) (by decide)
            · replace c18 := Bool.eq_false_iff.mpr c18
              subst c18
              have H1 : (some false) = some r := by rw [if_neg (show ¬ (false = true) by decide)] at H; exact H
              clear H
              have H := H1
              clear H1
              exact absurd ((Option.some.inj H).trans HTRUE.out) (by decide)
          · rw [if_neg c16] at H
            have c16b0 : (t597 == 0) = false := beq_eq_false_iff_ne.mpr c16
            have c16b1 : (t597 != 0) = true := bne_iff_ne.mpr c16
            exact absurd ((Option.some.inj H).trans HTRUE.out) (by decide)
        · rw [if_neg c13] at H
          exact absurd H (by simp)
      · rw [if_neg c8] at H
        exact absurd H (by simp)
    · rw [if_neg c6] at H
      exact absurd H (by simp)
  · replace c4 := Bool.eq_false_iff.mpr c4
    subst c4
    have H1 : (some false) = some r := by rw [if_neg (show ¬ (false = true) by decide)] at H; exact H
    clear H
    have H := H1
    clear H1
    exact absurd ((Option.some.inj H).trans HTRUE.out) (by decide)

end Go.Proofs.YtnogfhhfklkbiaaDoor.H

set_option linter.unusedVariables false
set_option linter.unusedSimpArgs false
set_option maxHeartbeats 1000000
namespace Go.Proofs.YtnogfhhfklkbiaaDoor.H
open Go.RowKit Go.Proofs.YtnogfhhfklkbiaaDoorW.PrintWords Go.Proofs.YtnogfhhfklkbiaaDoorW.PrintLast Go.Proofs.YtnogfhhfklkbiaaDoorW.PrintMore
open Go.Proofs.YtnogfhhfklkbiaaDoor.Src

theorem all_ascii {l : List UInt8} (h : l.all isMore = true) : l.all (fun c => decide (c.toNat < 128)) = true := by
  rw [List.all_eq_true] at h ⊢
  exact fun c hc => decide_eq_true (more_ascii c (h c hc))
theorem all_more {l : List UInt8} (h : l.all isDig = true) : l.all isMore = true := by
  rw [List.all_eq_true] at h ⊢
  exact fun c hc => (dig_ascii c (h c hc)).1
theorem lexA_num (p : Nat) (c : UInt8) (r m : List UInt8) (hc : isDig c = true) (hr : r.all isMore = true) (hm : m.takeWhile isMore = []) :
    lexA p (c :: r ++ m) = if numOk (c :: r) = true then consT p (1, (⟨#[]⟩ : ByteArray), (numV (c :: r) : Int), 0, ((c :: r).length : Int), none) (lexA (p + (c :: r).length) m) else ([], some ((p : Int), 202)) := by
  obtain ⟨d1, d2, d3, d4⟩ := dig_ascii c hc
  have hw : (c :: r).all isMore = true := by rw [List.all_cons, d1, hr]; rfl
  have ht : tokL (c :: r ++ m) = if numOk (c :: r) = true then (1, (⟨#[]⟩ : ByteArray), (numV (c :: r) : Int), 0, ((c :: r).length : Int), none) else noTok 202 := by
    unfold tokL
    rw [tw_app isMore (c :: r) m hw hm, wordL_cons, if_neg d4, if_pos hc]
  rw [List.cons_append] at ht ⊢
  rw [lexA_tok p c (r ++ m) d2 d3, ht]
  by_cases hn : numOk (c :: r) = true
  · rw [if_pos hn, if_pos hn]
    congr 1
    show lexA (p + ((c :: r).length : Int).toNat) ((c :: (r ++ m)).drop ((c :: r).length : Int).toNat) = _
    rw [Int.toNat_natCast, ← List.cons_append, List.drop_left]
  · rw [if_neg hn, if_neg hn]
    rfl
theorem LexNumbers_pure (a0 a1 : Int) : ∃ k, trammellaw2_LexNumbers.f k a0 a1 = some true := by
  refine ⟨501, ?_⟩
  unfold trammellaw2_LexNumbers.f
  rw [at_rounds trammellaw2_awake.mono (by decide : 300 ≤ 501) trammellaw2_awake.is, Option.bind_some, if_pos rfl, Bits.and1073741823, Bits.and1023]
  have g0 := Int.emod_nonneg a0 (b := 1073741824) (by decide)
  have g1 := Int.emod_lt_of_pos a0 (b := 1073741824) (by decide)
  have d0 := Int.emod_nonneg a1 (b := 1024) (by decide)
  have d1 := Int.emod_lt_of_pos a1 (b := 1024) (by decide)
  generalize a0 % 1073741824 = q at *
  generalize a1 % 1024 = e at *
  obtain ⟨y, rfl⟩ := Int.eq_ofNat_of_zero_le g0
  obtain ⟨z, rfl⟩ := Int.eq_ofNat_of_zero_le d0
  have hm : wrap64 (1073741824 + (z : Int)) = ((1073741824 + z : Nat) : Int) := by unfold wrap64; omega
  rw [hm, decimal_is y (by omega) 501 (by decide), decimal_is (1073741824 + z) (by omega) 501 (by decide)]
  obtain ⟨c, r, hy, hc, hy48⟩ := dec_cons y (by omega)
  obtain ⟨c2, r2, hz, hc2, hz48⟩ := dec_cons (1073741824 + z) (by omega)
  have hyd := dec_dig y
  have hyn := dec_num y (by omega)
  have hyo := dec_ok y (by omega)
  have hyl := dec_len y
  have hzd := dec_dig (1073741824 + z)
  have hzo := dec_ok (1073741824 + z) (by omega)
  have hzl := dec_len (1073741824 + z)
  rw [hy] at hyd hyn hyo hyl ⊢
  rw [hz] at hzd hzo hzl ⊢
  rw [decide_eq_true (by omega)] at hyo
  rw [decide_eq_false (by omega)] at hzo
  have hrd : r.all isDig = true := by rw [List.all_cons, Bool.and_eq_true] at hyd; exact hyd.2
  have hrd2 : r2.all isDig = true := by rw [List.all_cons, Bool.and_eq_true] at hzd; exact hzd.2
  have hmy := all_more hyd
  have hsz : (ba (c :: r)).size = (c :: r).length := ba_size _
  have asc := all_ascii hmy
  have e32 : ba (c :: r) ++ (⟨#[32]⟩ : ByteArray) = ba (c :: r ++ [32]) := ba_app _ [32]
  have e97 : ba (c :: r) ++ (⟨#[97]⟩ : ByteArray) = ba (c :: r ++ [97]) := ba_app _ [97]
  have e95 : ba (c :: r) ++ (⟨#[95, 32]⟩ : ByteArray) = ba (c :: r ++ [95, 32]) := ba_app _ [95, 32]
  have e48 : (⟨#[32, 48]⟩ : ByteArray) ++ ba (c :: r) = ba (32 :: 48 :: (c :: r)) := ba_app [32, 48] _
  have T1 : tokS (ba (c :: r ++ [32])) = ([(⟨1, (⟨#[]⟩ : ByteArray), (y : Int), 0⟩ : S60)], 0, 0) := by
    rw [tokS_ascii _ (by rw [List.length_append, List.length_singleton]; omega) (by rw [List.all_append, asc]; rfl), lexA_num 0 c r [32] hc (all_more hrd) rfl, if_pos hyo, lexA_blank _ 32 [] rfl, lexA_nil, hyn]
    rfl
  have T2 : tokS (ba (32 :: 48 :: (c :: r))) = ([], 1, 202) := by
    have hno : numOk (48 :: (c :: r)) = false := by simp [numOk]
    have h := lexA_num 1 48 (c :: r) [] rfl hmy rfl
    rw [List.append_nil, hno] at h
    rw [tokS_ascii _ (by simp only [List.length_cons] at hyl ⊢; omega) (by rw [List.all_cons, List.all_cons, asc]; rfl), lexA_blank _ 32 _ rfl, h]
    rfl
  have T3 : tokS (ba (c :: r ++ [97])) = ([], 0, 202) := by
    have hno : numOk (c :: (r ++ [97])) = false := by
      unfold numOk
      have : (c :: (r ++ [97])).all isDig = false := by rw [← List.cons_append, List.all_append]; simp [isDig]
      rw [this]
      rfl
    have h := lexA_num 0 c (r ++ [97]) [] hc (by rw [List.all_append, all_more hrd]; rfl) rfl
    rw [List.append_nil, hno] at h
    rw [tokS_ascii _ (by rw [List.length_append, List.length_singleton]; omega) (by rw [List.all_append, asc]; rfl), List.cons_append, h]
    rfl
  have T4 : tokS (ba (c2 :: r2)) = ([], 0, 202) := by
    have h := lexA_num 0 c2 r2 [] hc2 (all_more hrd2) rfl
    rw [List.append_nil, hzo] at h
    rw [tokS_ascii _ (by omega) (all_ascii (all_more hzd)), h]
    rfl
  have T5 : tokS (ba (c :: r ++ [95, 32])) = ([], 0, 202) := by
    have hno : numOk (c :: (r ++ [95])) = false := by
      unfold numOk
      have : (c :: (r ++ [95])).all isDig = false := by rw [← List.cons_append, List.all_append]; simp [isDig]
      rw [this]
      rfl
    have h := lexA_num 0 c (r ++ [95]) [32] hc (by rw [List.all_append, all_more hrd]; rfl) rfl
    rw [hno] at h
    have e : c :: r ++ [95, 32] = c :: (r ++ [95]) ++ [32] := by simp
    rw [tokS_ascii _ (by rw [List.length_append]; simp only [List.length_cons, List.length_nil] at hyl ⊢; omega) (by rw [List.all_append, asc]; rfl), e, h]
    rfl
  have s32 : (ba (c :: r ++ [32])).size ≤ 30 := by rw [ba_size, List.length_append, List.length_singleton]; omega
  have s97 : (ba (c :: r ++ [97])).size ≤ 30 := by rw [ba_size, List.length_append, List.length_singleton]; omega
  have s95 : (ba (c :: r ++ [95, 32])).size ≤ 30 := by rw [ba_size, List.length_append]; simp only [List.length_cons, List.length_nil] at hyl ⊢; omega
  have s48 : (ba (32 :: 48 :: (c :: r))).size ≤ 30 := by rw [ba_size]; simp only [List.length_cons] at hyl ⊢; omega
  have s2 : (ba (c2 :: r2)).size ≤ 30 := by rw [ba_size]; omega
  rw [Option.bind_some, if_pos (by omega), e32, tokS_is _ (by omega) 501 (by omega), T1, Option.bind_some, if_pos (by omega), e48, tokS_is _ (by omega) 501 (by omega), T2, Option.bind_some, e97, tokS_is _ (by omega) 501 (by omega), T3,
    Option.bind_some, Option.bind_some, tokS_is _ (by omega) 501 (by omega), T4, Option.bind_some, if_pos (by omega), e95, tokS_is _ (by omega) 501 (by omega), T5, Option.bind_some]
  simp only [trammellaw0_Num.f, Option.bind_some, if_true]
  rw [sameT_is _ _ 501 (by simp) (by simp), (eqToks_iff _ _).2 rfl]
  rfl
end Go.Proofs.YtnogfhhfklkbiaaDoor.H
