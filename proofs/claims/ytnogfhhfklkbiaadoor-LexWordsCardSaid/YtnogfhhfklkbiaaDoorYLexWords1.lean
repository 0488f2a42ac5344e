/- Several texts in one: contracts of functions of the program, and what they lean on. In part written by a program of this session over the kit's print, in part by hand. -/
import Derived.Test.YtnogfhhfklkbiaaDoorL0
import Derived.Test.YtnogfhhfklkbiaaDoorL3
import Derived.Test.YtnogfhhfklkbiaaDoorL1
import Derived.Test.YtnogfhhfklkbiaaDoorL6
namespace Go.Proofs.YtnogfhhfklkbiaaDoor.H
open Go.RowKit Go.Proofs.YtnogfhhfklkbiaaDoorW.PrintWords Go.Proofs.YtnogfhhfklkbiaaDoorW.PrintLast Go.Proofs.YtnogfhhfklkbiaaDoorW.PrintMore
attribute [local go_sem] max2_int min2_int max_two min_two max_three min_three max_four min_four   -- for this text's walks alone
set_option linter.unusedVariables false
set_option linter.unusedSimpArgs false

attribute [local go_sem high] eqA60
/-! ### trammellaw2_LexWords: function 10 -/
def trammellaw2_LexWords.j0 : Nat → ByteArray → ByteArray → List (S60) → Int → List (S60) → Int → Bool → Option (Bool)
  | 0, _, _, _, _, _, _, _ => none
  | k + 1, x1, x6, x7, x9, x10, x12, x45 => if x45 = true then (some false) else (if x6.size + 1 ≤ 9223372036854775807 then ((lex_Keyword.f k (x6 ++ (⟨#[120]⟩ : ByteArray))).bind fun t558 => (if 0 ≤ (wrap64 ((x6.size : Int) - 1)) then (if (wrap64 ((x6.size : Int) - 1)) ≤ (x6.size : Int) then ((lex_Keyword.f k (x6.extract 0 ((wrap64 ((x6.size : Int) - 1)) : Int).toNat)).bind fun t559 => ((trammellaw0_Num.f x9).bind fun t560 => (if t560 = 0 then (if 0 < (x7.length : Int) then (if (((rd_T60 x7 0).f0) == 2 && ((((rd_T60 x7 0).f1).toList) == x6.toList && (((rd_T60 x7 0).f2) == 0 && (((rd_T60 x7 0).f3) == 0)))) = true then ((lex_Keyword.f k x6).bind fun t562 => (if t562 = true then ((trammellaw0_Num.f x12).bind fun t563 => (if t563 = 0 then (if 0 < (x10.length : Int) then (if (((rd_T60 x10 0).f0) == 0 && ((((rd_T60 x10 0).f1).toList) == ((x6 ++ (⟨#[95]⟩ : ByteArray)).toList) && (((rd_T60 x10 0).f2) == 0 && (((rd_T60 x10 0).f3) == 0)))) = true then (if t558 = true then (some false) else (if t559 = true then (if x6.toList = ([105, 110, 116] : List UInt8) then (if (x6 ++ (⟨#[32]⟩ : ByteArray)).size + x1.size ≤ 9223372036854775807 then ((lex_Keyword.f k ((x6 ++ (⟨#[32]⟩ : ByteArray)) ++ x1)).bind fun t565 => (if t565 = true then (some false) else (if 1 + x6.size ≤ 9223372036854775807 then ((lex_Keyword.f k ((⟨#[32]⟩ : ByteArray) ++ x6)).bind fun t566 => (some (!t566))) else (none)))) else (none)) else (some false)) else (if (x6 ++ (⟨#[32]⟩ : ByteArray)).size + x1.size ≤ 9223372036854775807 then ((lex_Keyword.f k ((x6 ++ (⟨#[32]⟩ : ByteArray)) ++ x1)).bind fun t567 => (if t567 = true then (some false) else (if 1 + x6.size ≤ 9223372036854775807 then ((lex_Keyword.f k ((⟨#[32]⟩ : ByteArray) ++ x6)).bind fun t568 => (some (!t568))) else (none)))) else (none)))) else (some false)) else (none)) else (some false))) else (some false))) else (some false)) else (none)) else (some false)))) else (none)) else (none))) else (none))
def trammellaw2_LexWords.f (k : Nat) (a0 : Int) (a1 : ByteArray) : Option (Bool) := (trammellaw2_awake.f k).bind fun t543 => (if t543 = true then ((some (([(⟨#[102, 117, 110]⟩ : ByteArray), (⟨#[108, 101, 116]⟩ : ByteArray), (⟨#[114, 101, 99]⟩ : ByteArray), (⟨#[105, 110]⟩ : ByteArray), (⟨#[105, 102]⟩ : ByteArray), (⟨#[116, 104, 101, 110]⟩ : ByteArray), (⟨#[101, 108, 115, 101]⟩ : ByteArray), (⟨#[104, 97, 110, 100, 108, 101]⟩ : ByteArray), (⟨#[119, 105, 116, 104]⟩ : ByteArray), (⟨#[114, 101, 116, 117, 114, 110]⟩ : ByteArray), (⟨#[101, 110, 100]⟩ : ByteArray), (⟨#[100, 111]⟩ : ByteArray), (⟨#[111, 112]⟩ : ByteArray), (⟨#[116, 114, 117, 101]⟩ : ByteArray), (⟨#[102, 97, 108, 115, 101]⟩ : ByteArray), (⟨#[105, 110, 116]⟩ : ByteArray), (⟨#[98, 111, 111, 108]⟩ : ByteArray)] : List ByteArray) : List ByteArray)).bind fun y544 => (if 0 ≤ (wrap64 (Int.tmod (IntKind.u64.wrap (a0)) 17)) then (if (wrap64 (Int.tmod (IntKind.u64.wrap (a0)) 17)) < (y544.length : Int) then ((lex_Tokens.f k (rdOf ByteArray.empty y544 (wrap64 (Int.tmod (IntKind.u64.wrap (a0)) 17)))).bind fun bt548 => (if (rdOf ByteArray.empty y544 (wrap64 (Int.tmod (IntKind.u64.wrap (a0)) 17))).size + 1 ≤ 9223372036854775807 then ((lex_Tokens.f k ((rdOf ByteArray.empty y544 (wrap64 (Int.tmod (IntKind.u64.wrap (a0)) 17))) ++ (⟨#[95]⟩ : ByteArray))).bind fun bt553 => (if (bt548.1.length : Int) = 1 then (trammellaw2_LexWords.j0 k a1 (rdOf ByteArray.empty y544 (wrap64 (Int.tmod (IntKind.u64.wrap (a0)) 17))) bt548.1 bt548.2.2 bt553.1 bt553.2.2 ((bt553.1.length : Int) != 1)) else (trammellaw2_LexWords.j0 k a1 (rdOf ByteArray.empty y544 (wrap64 (Int.tmod (IntKind.u64.wrap (a0)) 17))) bt548.1 bt548.2.2 bt553.1 bt553.2.2 true))) else (none))) else (none)) else (none))) else (some false))
theorem trammellaw2_LexWords.mono_l : ∀ k, (∀ y0 y1 y2 y3 y4 y5 y6, LeO (trammellaw2_LexWords.j0 k y0 y1 y2 y3 y4 y5 y6) (trammellaw2_LexWords.j0 (k + 1) y0 y1 y2 y3 y4 y5 y6))
  | 0 => fun _ _ _ _ _ _ _ r h => by simp [trammellaw2_LexWords.j0] at h
  | k + 1 => by
    have ih0 := trammellaw2_LexWords.mono_l k
    · intro y0 y1 y2 y3 y4 y5 y6
      unfold trammellaw2_LexWords.j0
      repeat' first
      | (with_reducible exact ih0 _ _ _ _ _ _ _)
      | (with_reducible exact lex_Keyword.mono _ _)
      | (with_reducible exact lex_Tokens.mono _ _)
      | (with_reducible exact trammellaw2_awake.mono _)
      | (with_reducible exact LeO.refl _)
      | (with_reducible exact LeO.none _)
      | (with_reducible refine LeO.ite ?_ ?_)
      | (with_reducible refine LeO.bind ?_ (fun _ => ?_))
      | exact ih0 _ _ _ _ _ _ _
      | exact lex_Keyword.mono _ _
      | exact lex_Tokens.mono _ _
      | exact trammellaw2_awake.mono _
      | exact LeO.none _
      | refine LeO.ite ?_ ?_
      | refine LeO.bind ?_ (fun _ => ?_)
theorem trammellaw2_LexWords.mono : ∀ a0 a1 k, LeO (trammellaw2_LexWords.f k a0 a1) (trammellaw2_LexWords.f (k + 1) a0 a1) := by
  intro a0 a1 k
  have ih0 := trammellaw2_LexWords.mono_l k
  unfold trammellaw2_LexWords.f
  repeat' first
      | (with_reducible exact ih0 _ _ _ _ _ _ _)
      | (with_reducible exact lex_Keyword.mono _ _)
      | (with_reducible exact lex_Tokens.mono _ _)
      | (with_reducible exact trammellaw2_awake.mono _)
      | (with_reducible exact LeO.refl _)
      | (with_reducible exact LeO.none _)
      | (with_reducible refine LeO.ite ?_ ?_)
      | (with_reducible refine LeO.bind ?_ (fun _ => ?_))
      | exact ih0 _ _ _ _ _ _ _
      | exact lex_Keyword.mono _ _
      | exact lex_Tokens.mono _ _
      | exact trammellaw2_awake.mono _
      | exact LeO.none _
      | refine LeO.ite ?_ ?_
      | refine LeO.bind ?_ (fun _ => ?_)
set_option maxHeartbeats 8000000 in
set_option maxRecDepth 100000 in
theorem trammellaw2_LexWords.callsT (k : Nat) (a0 : Int) (a1 : ByteArray) (r : Bool) (w : World) (htrue : r = true) (h : trammellaw2_LexWords.f k a0 a1 = some r) (hG : Err.ErrTy w) :
    Calls Tryd.prog 10 #[.int .i64 a0, .string a1] w fun e w' => e = .returned (.bool r) ∧ Below w.heap.size w w' := by
  have HG := Aside0.mk hG
  clear hG
  have HTRUE := Aside0.mk htrue
  clear htrue
  have hu60 := Tryd.underlying60
  have HB := Aside0.mk (Below.refl w.heap.size w)
  have H : ((trammellaw2_awake.f k).bind fun t543 => (if t543 = true then ((some (([(⟨#[102, 117, 110]⟩ : ByteArray), (⟨#[108, 101, 116]⟩ : ByteArray), (⟨#[114, 101, 99]⟩ : ByteArray), (⟨#[105, 110]⟩ : ByteArray), (⟨#[105, 102]⟩ : ByteArray), (⟨#[116, 104, 101, 110]⟩ : ByteArray), (⟨#[101, 108, 115, 101]⟩ : ByteArray), (⟨#[104, 97, 110, 100, 108, 101]⟩ : ByteArray), (⟨#[119, 105, 116, 104]⟩ : ByteArray), (⟨#[114, 101, 116, 117, 114, 110]⟩ : ByteArray), (⟨#[101, 110, 100]⟩ : ByteArray), (⟨#[100, 111]⟩ : ByteArray), (⟨#[111, 112]⟩ : ByteArray), (⟨#[116, 114, 117, 101]⟩ : ByteArray), (⟨#[102, 97, 108, 115, 101]⟩ : ByteArray), (⟨#[105, 110, 116]⟩ : ByteArray), (⟨#[98, 111, 111, 108]⟩ : ByteArray)] : List ByteArray) : List ByteArray)).bind fun y544 => (if 0 ≤ (wrap64 (Int.tmod (IntKind.u64.wrap (a0)) 17)) then (if (wrap64 (Int.tmod (IntKind.u64.wrap (a0)) 17)) < (y544.length : Int) then ((lex_Tokens.f k (rdOf ByteArray.empty y544 (wrap64 (Int.tmod (IntKind.u64.wrap (a0)) 17)))).bind fun bt548 => (if (rdOf ByteArray.empty y544 (wrap64 (Int.tmod (IntKind.u64.wrap (a0)) 17))).size + 1 ≤ 9223372036854775807 then ((lex_Tokens.f k ((rdOf ByteArray.empty y544 (wrap64 (Int.tmod (IntKind.u64.wrap (a0)) 17))) ++ (⟨#[95]⟩ : ByteArray))).bind fun bt553 => (if (bt548.1.length : Int) = 1 then (trammellaw2_LexWords.j0 k a1 (rdOf ByteArray.empty y544 (wrap64 (Int.tmod (IntKind.u64.wrap (a0)) 17))) bt548.1 bt548.2.2 bt553.1 bt553.2.2 ((bt553.1.length : Int) != 1)) else (trammellaw2_LexWords.j0 k a1 (rdOf ByteArray.empty y544 (wrap64 (Int.tmod (IntKind.u64.wrap (a0)) 17))) bt548.1 bt548.2.2 bt553.1 bt553.2.2 true))) else (none))) else (none)) else (none))) else (some false))) = some r := h
  clear h
  replace H := Option.bind_eq_some_iff.mp H
  obtain ⟨t543, A30, H⟩ := H
  replace H : (if t543 = true then ((some (([(⟨#[102, 117, 110]⟩ : ByteArray), (⟨#[108, 101, 116]⟩ : ByteArray), (⟨#[114, 101, 99]⟩ : ByteArray), (⟨#[105, 110]⟩ : ByteArray), (⟨#[105, 102]⟩ : ByteArray), (⟨#[116, 104, 101, 110]⟩ : ByteArray), (⟨#[101, 108, 115, 101]⟩ : ByteArray), (⟨#[104, 97, 110, 100, 108, 101]⟩ : ByteArray), (⟨#[119, 105, 116, 104]⟩ : ByteArray), (⟨#[114, 101, 116, 117, 114, 110]⟩ : ByteArray), (⟨#[101, 110, 100]⟩ : ByteArray), (⟨#[100, 111]⟩ : ByteArray), (⟨#[111, 112]⟩ : ByteArray), (⟨#[116, 114, 117, 101]⟩ : ByteArray), (⟨#[102, 97, 108, 115, 101]⟩ : ByteArray), (⟨#[105, 110, 116]⟩ : ByteArray), (⟨#[98, 111, 111, 108]⟩ : ByteArray)] : List ByteArray) : List ByteArray)).bind fun y544 => (if 0 ≤ (wrap64 (Int.tmod (IntKind.u64.wrap (a0)) 17)) then (if (wrap64 (Int.tmod (IntKind.u64.wrap (a0)) 17)) < (y544.length : Int) then ((lex_Tokens.f k (rdOf ByteArray.empty y544 (wrap64 (Int.tmod (IntKind.u64.wrap (a0)) 17)))).bind fun bt548 => (if (rdOf ByteArray.empty y544 (wrap64 (Int.tmod (IntKind.u64.wrap (a0)) 17))).size + 1 ≤ 9223372036854775807 then ((lex_Tokens.f k ((rdOf ByteArray.empty y544 (wrap64 (Int.tmod (IntKind.u64.wrap (a0)) 17))) ++ (⟨#[95]⟩ : ByteArray))).bind fun bt553 => (if (bt548.1.length : Int) = 1 then (trammellaw2_LexWords.j0 k a1 (rdOf ByteArray.empty y544 (wrap64 (Int.tmod (IntKind.u64.wrap (a0)) 17))) bt548.1 bt548.2.2 bt553.1 bt553.2.2 ((bt553.1.length : Int) != 1)) else (trammellaw2_LexWords.j0 k a1 (rdOf ByteArray.empty y544 (wrap64 (Int.tmod (IntKind.u64.wrap (a0)) 17))) bt548.1 bt548.2.2 bt553.1 bt553.2.2 true))) else (none))) else (none)) else (none))) else (some false)) = some r := H
  have A3 := Aside0.mk A30
  clear A30
  by_cases c4 : t543 = true
  · subst c4
    have H1 : ((some (([(⟨#[102, 117, 110]⟩ : ByteArray), (⟨#[108, 101, 116]⟩ : ByteArray), (⟨#[114, 101, 99]⟩ : ByteArray), (⟨#[105, 110]⟩ : ByteArray), (⟨#[105, 102]⟩ : ByteArray), (⟨#[116, 104, 101, 110]⟩ : ByteArray), (⟨#[101, 108, 115, 101]⟩ : ByteArray), (⟨#[104, 97, 110, 100, 108, 101]⟩ : ByteArray), (⟨#[119, 105, 116, 104]⟩ : ByteArray), (⟨#[114, 101, 116, 117, 114, 110]⟩ : ByteArray), (⟨#[101, 110, 100]⟩ : ByteArray), (⟨#[100, 111]⟩ : ByteArray), (⟨#[111, 112]⟩ : ByteArray), (⟨#[116, 114, 117, 101]⟩ : ByteArray), (⟨#[102, 97, 108, 115, 101]⟩ : ByteArray), (⟨#[105, 110, 116]⟩ : ByteArray), (⟨#[98, 111, 111, 108]⟩ : ByteArray)] : List ByteArray) : List ByteArray)).bind fun y544 => (if 0 ≤ (wrap64 (Int.tmod (IntKind.u64.wrap (a0)) 17)) then (if (wrap64 (Int.tmod (IntKind.u64.wrap (a0)) 17)) < (y544.length : Int) then ((lex_Tokens.f k (rdOf ByteArray.empty y544 (wrap64 (Int.tmod (IntKind.u64.wrap (a0)) 17)))).bind fun bt548 => (if (rdOf ByteArray.empty y544 (wrap64 (Int.tmod (IntKind.u64.wrap (a0)) 17))).size + 1 ≤ 9223372036854775807 then ((lex_Tokens.f k ((rdOf ByteArray.empty y544 (wrap64 (Int.tmod (IntKind.u64.wrap (a0)) 17))) ++ (⟨#[95]⟩ : ByteArray))).bind fun bt553 => (if (bt548.1.length : Int) = 1 then (trammellaw2_LexWords.j0 k a1 (rdOf ByteArray.empty y544 (wrap64 (Int.tmod (IntKind.u64.wrap (a0)) 17))) bt548.1 bt548.2.2 bt553.1 bt553.2.2 ((bt553.1.length : Int) != 1)) else (trammellaw2_LexWords.j0 k a1 (rdOf ByteArray.empty y544 (wrap64 (Int.tmod (IntKind.u64.wrap (a0)) 17))) bt548.1 bt548.2.2 bt553.1 bt553.2.2 true))) else (none))) else (none)) else (none))) = some r := by rw [if_pos rfl] at H; exact H
    clear H
    have H := H1
    clear H1
    obtain ⟨y544, hy544⟩ : ∃ y_ : List ByteArray, y_ = (([(⟨#[102, 117, 110]⟩ : ByteArray), (⟨#[108, 101, 116]⟩ : ByteArray), (⟨#[114, 101, 99]⟩ : ByteArray), (⟨#[105, 110]⟩ : ByteArray), (⟨#[105, 102]⟩ : ByteArray), (⟨#[116, 104, 101, 110]⟩ : ByteArray), (⟨#[101, 108, 115, 101]⟩ : ByteArray), (⟨#[104, 97, 110, 100, 108, 101]⟩ : ByteArray), (⟨#[119, 105, 116, 104]⟩ : ByteArray), (⟨#[114, 101, 116, 117, 114, 110]⟩ : ByteArray), (⟨#[101, 110, 100]⟩ : ByteArray), (⟨#[100, 111]⟩ : ByteArray), (⟨#[111, 112]⟩ : ByteArray), (⟨#[116, 114, 117, 101]⟩ : ByteArray), (⟨#[102, 97, 108, 115, 101]⟩ : ByteArray), (⟨#[105, 110, 116]⟩ : ByteArray), (⟨#[98, 111, 111, 108]⟩ : ByteArray)] : List ByteArray)) := ⟨_, rfl⟩
    replace H : (if 0 ≤ (wrap64 (Int.tmod (IntKind.u64.wrap (a0)) 17)) then (if (wrap64 (Int.tmod (IntKind.u64.wrap (a0)) 17)) < (y544.length : Int) then ((lex_Tokens.f k (rdOf ByteArray.empty y544 (wrap64 (Int.tmod (IntKind.u64.wrap (a0)) 17)))).bind fun bt548 => (if (rdOf ByteArray.empty y544 (wrap64 (Int.tmod (IntKind.u64.wrap (a0)) 17))).size + 1 ≤ 9223372036854775807 then ((lex_Tokens.f k ((rdOf ByteArray.empty y544 (wrap64 (Int.tmod (IntKind.u64.wrap (a0)) 17))) ++ (⟨#[95]⟩ : ByteArray))).bind fun bt553 => (if (bt548.1.length : Int) = 1 then (trammellaw2_LexWords.j0 k a1 (rdOf ByteArray.empty y544 (wrap64 (Int.tmod (IntKind.u64.wrap (a0)) 17))) bt548.1 bt548.2.2 bt553.1 bt553.2.2 ((bt553.1.length : Int) != 1)) else (trammellaw2_LexWords.j0 k a1 (rdOf ByteArray.empty y544 (wrap64 (Int.tmod (IntKind.u64.wrap (a0)) 17))) bt548.1 bt548.2.2 bt553.1 bt553.2.2 true))) else (none))) else (none)) else (none)) = some r := by first | (rw [hy544]; with_reducible exact H) | (have H2_ := (Option.bind_some _ _).symm.trans H; rw [hy544]; with_reducible exact H2_) | (have H2_ := (Option.bind_some _ _).symm.trans H; with_reducible exact H2_) | with_reducible exact H | (rw [hy544]; exact H) | exact H
    have Ny544 := Aside0.mk hy544
    clear hy544
    obtain ⟨ji5, hji5⟩ : ∃ j_ : Int, (wrap64 (Int.tmod (IntKind.u64.wrap (a0)) 17)) = j_ := ⟨_, rfl⟩
    replace H : (if 0 ≤ (ji5) then (if (ji5) < (y544.length : Int) then ((lex_Tokens.f k (rdOf ByteArray.empty y544 (ji5))).bind fun bt548 => (if (rdOf ByteArray.empty y544 (ji5)).size + 1 ≤ 9223372036854775807 then ((lex_Tokens.f k ((rdOf ByteArray.empty y544 (ji5)) ++ (⟨#[95]⟩ : ByteArray))).bind fun bt553 => (if (bt548.1.length : Int) = 1 then (trammellaw2_LexWords.j0 k a1 (rdOf ByteArray.empty y544 (ji5)) bt548.1 bt548.2.2 bt553.1 bt553.2.2 ((bt553.1.length : Int) != 1)) else (trammellaw2_LexWords.j0 k a1 (rdOf ByteArray.empty y544 (ji5)) bt548.1 bt548.2.2 bt553.1 bt553.2.2 true))) else (none))) else (none)) else (none)) = some r := by first | (rw [hji5] at H; exact H) | (simp only [hji5] at H ⊢; exact H)
    (try rw [hji5] at A3)
    have hji5w : (IntKind.i64.wrap (Int.tmod (IntKind.u64.wrap (a0)) 17)) = ji5 := (i64_w _).trans hji5
    by_cases c6 : 0 ≤ (ji5)
    · rw [if_pos c6] at H
      have c6b0 : decide (0 ≤ (ji5)) = true := decide_eq_true c6
      clear c6
      by_cases c7 : (ji5) < (y544.length : Int)
      · rw [if_pos c7] at H
        have c7b0 : decide ((ji5) < (y544.length : Int)) = true := decide_eq_true c7
        clear c7
        replace H := Option.bind_eq_some_iff.mp H
        obtain ⟨⟨t548, t549, t550⟩, A80, H⟩ := H
        replace H : (if (rdOf ByteArray.empty y544 (ji5)).size + 1 ≤ 9223372036854775807 then ((lex_Tokens.f k ((rdOf ByteArray.empty y544 (ji5)) ++ (⟨#[95]⟩ : ByteArray))).bind fun bt553 => (if (t548.length : Int) = 1 then (trammellaw2_LexWords.j0 k a1 (rdOf ByteArray.empty y544 (ji5)) t548 t550 bt553.1 bt553.2.2 ((bt553.1.length : Int) != 1)) else (trammellaw2_LexWords.j0 k a1 (rdOf ByteArray.empty y544 (ji5)) t548 t550 bt553.1 bt553.2.2 true))) else (none)) = some r := H
        have A8 := Aside0.mk A80
        clear A80
        by_cases c9 : (rdOf ByteArray.empty y544 (ji5)).size + 1 ≤ 9223372036854775807
        · rw [if_pos c9] at H
          have c9b0 := eq_true c9
          have c9b1 : decide ((rdOf ByteArray.empty y544 (ji5)).size + 1 ≤ 9223372036854775807) = true := decide_eq_true c9
          try have c9b2 : (9223372036854775807 < (rdOf ByteArray.empty y544 (ji5)).size + 1) = False := eq_false (Nat.not_lt.2 c9)
          replace H := Option.bind_eq_some_iff.mp H
          obtain ⟨⟨t553, t554, t555⟩, A100, H⟩ := H
          replace H : (if (t548.length : Int) = 1 then (trammellaw2_LexWords.j0 k a1 (rdOf ByteArray.empty y544 (ji5)) t548 t550 t553 t555 ((t553.length : Int) != 1)) else (trammellaw2_LexWords.j0 k a1 (rdOf ByteArray.empty y544 (ji5)) t548 t550 t553 t555 true)) = some r := H
          have A10 := Aside0.mk A100
          clear A100
          have HC11 := Aside0.mk H
          clear H
          go_enter Tryd.func10, Tryd.ntmps10
          go_upto_region 7 with (first | ((with_reducible refine gate_callee (f := 33) rfl ?_); refine goesL_ (some 15) rfl rfl Tryd.func33 (by kernel_rfl) rfl #[] rfl (by (try simp only [List.map_toArray, List.map_cons, List.map_nil]); first | done | rfl | (simp only [List.length_drop, List.length_take]; rfl)) ?_; (with_reducible refine (trammellaw2_awake.calls k  true _ A3.out (HG.out.below HG.out.lt (by repeat (first | (with_reducible first | exact HB.out | apply below_alloc | apply pw_below_drewN | apply below_drew1) | exact HB.out)))).mono ?_); rintro e w12 ⟨rfl, hb⟩; refine ⟨_, rfl, ?_⟩; have n0_ := Aside0.mk (below_step (by repeat (first | (with_reducible first | exact HB.out | apply below_alloc | apply pw_below_drewN | apply below_drew1) | exact HB.out)) hb); clear HB; have HB := n0_; clear n0_; (try clear hb); (try clear hb2); (try clear hk); (try clear hi)) | ((with_reducible refine gate_dst (N := 17) rfl ?_); (try (refine gate_guard (by rfl) ?_; dsimp only)); refine Kd.R_lit Kd.string _ 9 ?hg (N := 17) ?hd (xs := ([(⟨#[102, 117, 110]⟩ : ByteArray), (⟨#[108, 101, 116]⟩ : ByteArray), (⟨#[114, 101, 99]⟩ : ByteArray), (⟨#[105, 110]⟩ : ByteArray), (⟨#[105, 102]⟩ : ByteArray), (⟨#[116, 104, 101, 110]⟩ : ByteArray), (⟨#[101, 108, 115, 101]⟩ : ByteArray), (⟨#[104, 97, 110, 100, 108, 101]⟩ : ByteArray), (⟨#[119, 105, 116, 104]⟩ : ByteArray), (⟨#[114, 101, 116, 117, 114, 110]⟩ : ByteArray), (⟨#[101, 110, 100]⟩ : ByteArray), (⟨#[100, 111]⟩ : ByteArray), (⟨#[111, 112]⟩ : ByteArray), (⟨#[116, 114, 117, 101]⟩ : ByteArray), (⟨#[102, 97, 108, 115, 101]⟩ : ByteArray), (⟨#[105, 110, 116]⟩ : ByteArray), (⟨#[98, 111, 111, 108]⟩ : ByteArray)] : List ByteArray)) (inner := [.string (⟨#[102, 117, 110]⟩ : ByteArray), .string (⟨#[108, 101, 116]⟩ : ByteArray), .string (⟨#[114, 101, 99]⟩ : ByteArray), .string (⟨#[105, 110]⟩ : ByteArray), .string (⟨#[105, 102]⟩ : ByteArray), .string (⟨#[116, 104, 101, 110]⟩ : ByteArray), .string (⟨#[101, 108, 115, 101]⟩ : ByteArray), .string (⟨#[104, 97, 110, 100, 108, 101]⟩ : ByteArray), .string (⟨#[119, 105, 116, 104]⟩ : ByteArray), .string (⟨#[114, 101, 116, 117, 114, 110]⟩ : ByteArray), .string (⟨#[101, 110, 100]⟩ : ByteArray), .string (⟨#[100, 111]⟩ : ByteArray), .string (⟨#[111, 112]⟩ : ByteArray), .string (⟨#[116, 114, 117, 101]⟩ : ByteArray), .string (⟨#[102, 97, 108, 115, 101]⟩ : ByteArray), .string (⟨#[105, 110, 116]⟩ : ByteArray), .string (⟨#[98, 111, 111, 108]⟩ : ByteArray)]) (ok := fun _ => True) (okp := fun _ => True) ?hr ?hp (fun _ hk => hk) trivial (Below.refl _ _) (Nat.le_refl _) (by simp) ?_; (case hd => rfl); (case hg => rfl); (case hr => first | (go_simp; done) | (go_simp; rfl)); (case hp => exact (Reps.one (show Kd.M Kd.string _ _ _ (⟨#[102, 117, 110]⟩ : ByteArray) [.string (⟨#[102, 117, 110]⟩ : ByteArray)] from rfl) (Reps.one (show Kd.M Kd.string _ _ _ (⟨#[108, 101, 116]⟩ : ByteArray) [.string (⟨#[108, 101, 116]⟩ : ByteArray)] from rfl) (Reps.one (show Kd.M Kd.string _ _ _ (⟨#[114, 101, 99]⟩ : ByteArray) [.string (⟨#[114, 101, 99]⟩ : ByteArray)] from rfl) (Reps.one (show Kd.M Kd.string _ _ _ (⟨#[105, 110]⟩ : ByteArray) [.string (⟨#[105, 110]⟩ : ByteArray)] from rfl) (Reps.one (show Kd.M Kd.string _ _ _ (⟨#[105, 102]⟩ : ByteArray) [.string (⟨#[105, 102]⟩ : ByteArray)] from rfl) (Reps.one (show Kd.M Kd.string _ _ _ (⟨#[116, 104, 101, 110]⟩ : ByteArray) [.string (⟨#[116, 104, 101, 110]⟩ : ByteArray)] from rfl) (Reps.one (show Kd.M Kd.string _ _ _ (⟨#[101, 108, 115, 101]⟩ : ByteArray) [.string (⟨#[101, 108, 115, 101]⟩ : ByteArray)] from rfl) (Reps.one (show Kd.M Kd.string _ _ _ (⟨#[104, 97, 110, 100, 108, 101]⟩ : ByteArray) [.string (⟨#[104, 97, 110, 100, 108, 101]⟩ : ByteArray)] from rfl) (Reps.one (show Kd.M Kd.string _ _ _ (⟨#[119, 105, 116, 104]⟩ : ByteArray) [.string (⟨#[119, 105, 116, 104]⟩ : ByteArray)] from rfl) (Reps.one (show Kd.M Kd.string _ _ _ (⟨#[114, 101, 116, 117, 114, 110]⟩ : ByteArray) [.string (⟨#[114, 101, 116, 117, 114, 110]⟩ : ByteArray)] from rfl) (Reps.one (show Kd.M Kd.string _ _ _ (⟨#[101, 110, 100]⟩ : ByteArray) [.string (⟨#[101, 110, 100]⟩ : ByteArray)] from rfl) (Reps.one (show Kd.M Kd.string _ _ _ (⟨#[100, 111]⟩ : ByteArray) [.string (⟨#[100, 111]⟩ : ByteArray)] from rfl) (Reps.one (show Kd.M Kd.string _ _ _ (⟨#[111, 112]⟩ : ByteArray) [.string (⟨#[111, 112]⟩ : ByteArray)] from rfl) (Reps.one (show Kd.M Kd.string _ _ _ (⟨#[116, 114, 117, 101]⟩ : ByteArray) [.string (⟨#[116, 114, 117, 101]⟩ : ByteArray)] from rfl) (Reps.one (show Kd.M Kd.string _ _ _ (⟨#[102, 97, 108, 115, 101]⟩ : ByteArray) [.string (⟨#[102, 97, 108, 115, 101]⟩ : ByteArray)] from rfl) (Reps.one (show Kd.M Kd.string _ _ _ (⟨#[105, 110, 116]⟩ : ByteArray) [.string (⟨#[105, 110, 116]⟩ : ByteArray)] from rfl) (Reps.one (show Kd.M Kd.string _ _ _ (⟨#[98, 111, 111, 108]⟩ : ByteArray) [.string (⟨#[98, 111, 111, 108]⟩ : ByteArray)] from rfl) (Reps.none _ _))))))))))))))))))); intro v545 w13 ho14 hb hg_ hnew_; clear hg_ hnew_; (first | rw [← Ny544.out] at ho14 | (simp only [Int.reduceToNat] at ho14; rw [← Ny544.out] at ho14)); have n0_ := Aside0.mk (Kd.R_lower ho14 (below_size (by repeat (first | (with_reducible first | exact HB.out | apply below_alloc | apply pw_below_drewN | apply below_drew1) | exact HB.out)))); have n1_ := Aside0.mk (below_step (by repeat (first | (with_reducible first | exact HB.out | apply below_alloc | apply pw_below_drewN | apply below_drew1) | exact HB.out)) hb); clear HB; have HO546 := n0_; have HB := n1_; clear n0_ n1_; clear hb ho14; obtain ⟨Ao15, co15, eo15⟩ := Kd.R_slice HO546.out; subst eo15; have p547 : 0 ≤ ((ji5) : Int) := of_decide_eq_true (by first | (with_reducible assumption) | assumption); have q547 : (ji5) < (y544.length : Int) := of_decide_eq_true (by first | (with_reducible assumption) | assumption); obtain ⟨ad547, e547, hx547_0⟩ := Kd.at_string (Kd.R_reads' HO546.out).2.2 (ji5) p547 q547; cases e547; replace p547 := eq_true p547; replace q547 := eq_true q547) | ((with_reducible refine gate_callee (f := 27) rfl ?_); refine goesL_ (some 27) rfl rfl Tryd.func27 (by kernel_rfl) rfl #[.string (rdOf ByteArray.empty y544 (ji5))] rfl (by (try simp only [List.map_toArray, List.map_cons, List.map_nil]); first | done | (simp only [hji5]; rfl) | rfl | (simp only [List.length_drop, List.length_take]; rfl)) ?_; (with_reducible refine (lex_Tokens.calls k (rdOf ByteArray.empty y544 (ji5)) t548 t549 t550 _ A8.out (HG.out.below HG.out.lt (by repeat (first | (with_reducible first | exact HB.out | apply below_alloc | apply pw_below_drewN | apply below_drew1) | exact HB.out)))).mono ?_); rintro e w16 ⟨v551, rfl, ho0, hb⟩; refine ⟨_, rfl, ?_⟩; have n0_ := Aside0.mk (Kd.R_below (by (with_reducible repeat (first | apply Kd.R_alloc | apply Kd.R_drewN | apply Kd.R_drew)); exact HO546.out) hb); have n1_ := Aside0.mk (Kd.R_lower ho0 (below_size (by repeat (first | (with_reducible first | exact HB.out | apply below_alloc | apply pw_below_drewN | apply below_drew1) | exact HB.out)))); have n2_ := Aside0.mk (below_step (by repeat (first | (with_reducible first | exact HB.out | apply below_alloc | apply pw_below_drewN | apply below_drew1) | exact HB.out)) hb); clear HO546; clear HB; have HO546 := n0_; have HO552 := n1_; have HB := n2_; clear n0_ n1_ n2_; (try clear hb); (try clear hb2); (try clear hk); (try clear hi); (try clear ho0)) | ((with_reducible refine gate_callee (f := 27) rfl ?_); refine goesL_ (some 34) rfl rfl Tryd.func27 (by kernel_rfl) rfl #[.string ((rdOf ByteArray.empty y544 (ji5)) ++ (⟨#[95]⟩ : ByteArray))] rfl (by (try simp only [List.map_toArray, List.map_cons, List.map_nil]); first | done | (simp only [hji5]; rfl) | rfl | (simp only [List.length_drop, List.length_take]; rfl)) ?_; (with_reducible refine (lex_Tokens.calls k ((rdOf ByteArray.empty y544 (ji5)) ++ (⟨#[95]⟩ : ByteArray)) t553 t554 t555 _ A10.out (HG.out.below HG.out.lt (by repeat (first | (with_reducible first | exact HB.out | apply below_alloc | apply pw_below_drewN | apply below_drew1) | exact HB.out)))).mono ?_); rintro e w17 ⟨v556, rfl, ho0, hb⟩; refine ⟨_, rfl, ?_⟩; have n0_ := Aside0.mk (Kd.R_below (by (with_reducible repeat (first | apply Kd.R_alloc | apply Kd.R_drewN | apply Kd.R_drew)); exact HO546.out) hb); have n1_ := Aside0.mk (Kd.R_elder' (by (with_reducible repeat (first | apply Kd.R_alloc | apply Kd.R_drewN | apply Kd.R_drew)); exact HO552.out) (Kd.R_base ho0) hb); have n2_ := Aside0.mk (Kd.R_lower (Kd.R_new' ho0 (Kd.R_lt (by (with_reducible repeat (first | apply Kd.R_alloc | apply Kd.R_drewN | apply Kd.R_drew)); exact HO552.out))) (below_size (by repeat (first | (with_reducible first | exact HB.out | apply below_alloc | apply pw_below_drewN | apply below_drew1) | exact HB.out)))); have n3_ := Aside0.mk (below_step (by repeat (first | (with_reducible first | exact HB.out | apply below_alloc | apply pw_below_drewN | apply below_drew1) | exact HB.out)) hb); clear HO546; clear HO552; clear HB; have HO546 := n0_; have HO552 := n1_; have HO557 := n2_; have HB := n3_; clear n0_ n1_ n2_ n3_; (try clear hb); (try clear hb2); (try clear hk); (try clear hi); (try clear ho0)))
          (try simp only [Act.put, List.setIfInBounds_toArray, List.set_cons_zero, List.set_cons_succ])
          go_cut [45] (fun v45 wc => ∃ (kq : Nat) (x45_10 : Bool), v45 = .bool x45_10 ∧ Aside0 (trammellaw2_LexWords.j0 kq a1 (rdOf ByteArray.empty y544 (ji5)) t548 t550 t553 t555 x45_10 = some r) ∧ Aside0 (kq ≤ k) ∧ Aside0 (Kd.R k60 60 wc w.heap.size (fun k_ => some k_ ≠ (v556 : Value).ownBlock) v551 t548) ∧ Aside0 (Kd.R k60 60 wc w.heap.size (fun k_ => some k_ ≠ (v551 : Value).ownBlock) v556 t553) ∧ Aside0 (Below w.heap.size w wc))
          case first =>
            have H := HC11.out
            clear HC11
            by_cases c18 : (t548.length : Int) = 1
            · rw [if_pos c18] at H
              have c18b0 : ((t548.length : Int) == 1) = true := beq_iff_eq.mpr c18
              have c18b1 : ((t548.length : Int) != 1) = false := bne_eq_false_iff_eq.mpr c18
              clear c18
              (first | rw [c18b0] | (simp only [i64_w, i32_w]; rw [c18b0]) | skip)
              have H' := Aside0.mk H
              clear H
              obtain ⟨Ao19, co19, eo19⟩ := Kd.R_slice HO552.out
              subst eo19
              obtain ⟨Ao20, co20, eo20⟩ := Kd.R_slice HO557.out
              subst eo20
              go_wp2
              go_meet
              case rel => exact ⟨_, (((t553.length : Int) != 1)), (by first | rfl | (simp; done) | (simp [*]; done)), H', ⟨by first | omega | exact Nat.le_refl _⟩, ⟨by (with_reducible repeat (first | apply Kd.R_alloc | apply Kd.R_drewN | apply Kd.R_drew)); exact Kd.R_mono HO552.out (fun _ hk => hk.2)⟩, ⟨by (with_reducible repeat (first | apply Kd.R_alloc | apply Kd.R_drewN | apply Kd.R_drew)); exact Kd.R_mono HO557.out (fun _ hk => hk.2)⟩, ⟨by repeat (first | (with_reducible first | exact HB.out | apply below_alloc | apply pw_below_drewN | apply below_drew1) | exact HB.out)⟩⟩
            · rw [if_neg c18] at H
              have c18b0 : ((t548.length : Int) == 1) = false := beq_eq_false_iff_ne.mpr c18
              have c18b1 : ((t548.length : Int) != 1) = true := bne_iff_ne.mpr c18
              (first | rw [c18b0] | (simp only [i64_w, i32_w]; rw [c18b0]) | skip)
              have H' := Aside0.mk H
              clear H
              obtain ⟨Ao21, co21, eo21⟩ := Kd.R_slice HO552.out
              subst eo21
              go_wp2
              go_meet
              case rel => exact ⟨_, (true), (by first | rfl | (simp; done) | (simp [*]; done)), H', ⟨by first | omega | exact Nat.le_refl _⟩, ⟨by (with_reducible repeat (first | apply Kd.R_alloc | apply Kd.R_drewN | apply Kd.R_drew)); exact Kd.R_mono HO552.out (fun _ hk => hk.2)⟩, ⟨by (with_reducible repeat (first | apply Kd.R_alloc | apply Kd.R_drewN | apply Kd.R_drew)); exact Kd.R_mono HO557.out (fun _ hk => hk.2)⟩, ⟨by repeat (first | (with_reducible first | exact HB.out | apply below_alloc | apply pw_below_drewN | apply below_drew1) | exact HB.out)⟩⟩
          case rest =>
            clear HC11
            try clear c1
            try clear c2
            try clear p2
            try clear c3
            try clear c4
            try clear p5
            try clear q5
            try clear hx5
            try clear c6
            try clear c6b0
            try clear p6
            try clear c7
            try clear c7b0
            try clear c9
            try clear c9b0
            try clear c9b1
            try clear c9b2
            try clear c10
            try clear c18
            try clear c18b0
            try clear c18b1
            try clear hx547_0
            try clear p547
            try clear q547
            obtain ⟨kq, x45_10, rfl, HA, HJ10, HO_7, HO_10, HB⟩ := hcut
            cases kq with
            | zero => exact absurd HA.out (by simp [trammellaw2_LexWords.j0])
            | succ kj10 =>
              have H := HA.out
              clear HA
              simp only [trammellaw2_LexWords.j0] at H
              by_cases c22 : x45_10 = true
              · subst c22
                have H1 : (some false) = some r := by rw [if_pos rfl] at H; exact H
                clear H
                have H := H1
                clear H1
                exact absurd ((Option.some.inj H).trans HTRUE.out) (by decide)
              · replace c22 := Bool.eq_false_iff.mpr c22
                subst c22
                have H1 : (if (rdOf ByteArray.empty y544 (ji5)).size + 1 ≤ 9223372036854775807 then ((lex_Keyword.f kj10 ((rdOf ByteArray.empty y544 (ji5)) ++ (⟨#[120]⟩ : ByteArray))).bind fun t558 => (if 0 ≤ (wrap64 (((rdOf ByteArray.empty y544 (ji5)).size : Int) - 1)) then (if (wrap64 (((rdOf ByteArray.empty y544 (ji5)).size : Int) - 1)) ≤ ((rdOf ByteArray.empty y544 (ji5)).size : Int) then ((lex_Keyword.f kj10 ((rdOf ByteArray.empty y544 (ji5)).extract 0 ((wrap64 (((rdOf ByteArray.empty y544 (ji5)).size : Int) - 1)) : Int).toNat)).bind fun t559 => ((trammellaw0_Num.f t550).bind fun t560 => (if t560 = 0 then (if 0 < (t548.length : Int) then (if (((rd_T60 t548 0).f0) == 2 && ((((rd_T60 t548 0).f1).toList) == (rdOf ByteArray.empty y544 (ji5)).toList && (((rd_T60 t548 0).f2) == 0 && (((rd_T60 t548 0).f3) == 0)))) = true then ((lex_Keyword.f kj10 (rdOf ByteArray.empty y544 (ji5))).bind fun t562 => (if t562 = true then ((trammellaw0_Num.f t555).bind fun t563 => (if t563 = 0 then (if 0 < (t553.length : Int) then (if (((rd_T60 t553 0).f0) == 0 && ((((rd_T60 t553 0).f1).toList) == (((rdOf ByteArray.empty y544 (ji5)) ++ (⟨#[95]⟩ : ByteArray)).toList) && (((rd_T60 t553 0).f2) == 0 && (((rd_T60 t553 0).f3) == 0)))) = true then (if t558 = true then (some false) else (if t559 = true then (if (rdOf ByteArray.empty y544 (ji5)).toList = ([105, 110, 116] : List UInt8) then (if ((rdOf ByteArray.empty y544 (ji5)) ++ (⟨#[32]⟩ : ByteArray)).size + a1.size ≤ 9223372036854775807 then ((lex_Keyword.f kj10 (((rdOf ByteArray.empty y544 (ji5)) ++ (⟨#[32]⟩ : ByteArray)) ++ a1)).bind fun t565 => (if t565 = true then (some false) else (if 1 + (rdOf ByteArray.empty y544 (ji5)).size ≤ 9223372036854775807 then ((lex_Keyword.f kj10 ((⟨#[32]⟩ : ByteArray) ++ (rdOf ByteArray.empty y544 (ji5)))).bind fun t566 => (some (!t566))) else (none)))) else (none)) else (some false)) else (if ((rdOf ByteArray.empty y544 (ji5)) ++ (⟨#[32]⟩ : ByteArray)).size + a1.size ≤ 9223372036854775807 then ((lex_Keyword.f kj10 (((rdOf ByteArray.empty y544 (ji5)) ++ (⟨#[32]⟩ : ByteArray)) ++ a1)).bind fun t567 => (if t567 = true then (some false) else (if 1 + (rdOf ByteArray.empty y544 (ji5)).size ≤ 9223372036854775807 then ((lex_Keyword.f kj10 ((⟨#[32]⟩ : ByteArray) ++ (rdOf ByteArray.empty y544 (ji5)))).bind fun t568 => (some (!t568))) else (none)))) else (none)))) else (some false)) else (none)) else (some false))) else (some false))) else (some false)) else (none)) else (some false)))) else (none)) else (none))) else (none)) = some r := by rw [if_neg (show ¬ (false = true) by decide)] at H; exact H
                clear H
                have H := H1
                clear H1
                by_cases c23 : (rdOf ByteArray.empty y544 (ji5)).size + 1 ≤ 9223372036854775807
                · rw [if_pos c23] at H
                  have c23b0 := eq_true c23
                  have c23b1 : decide ((rdOf ByteArray.empty y544 (ji5)).size + 1 ≤ 9223372036854775807) = true := decide_eq_true c23
                  try have c23b2 : (9223372036854775807 < (rdOf ByteArray.empty y544 (ji5)).size + 1) = False := eq_false (Nat.not_lt.2 c23)
                  replace H := Option.bind_eq_some_iff.mp H
                  obtain ⟨t558, A240, H⟩ := H
                  replace H : (if 0 ≤ (wrap64 (((rdOf ByteArray.empty y544 (ji5)).size : Int) - 1)) then (if (wrap64 (((rdOf ByteArray.empty y544 (ji5)).size : Int) - 1)) ≤ ((rdOf ByteArray.empty y544 (ji5)).size : Int) then ((lex_Keyword.f kj10 ((rdOf ByteArray.empty y544 (ji5)).extract 0 ((wrap64 (((rdOf ByteArray.empty y544 (ji5)).size : Int) - 1)) : Int).toNat)).bind fun t559 => ((trammellaw0_Num.f t550).bind fun t560 => (if t560 = 0 then (if 0 < (t548.length : Int) then (if (((rd_T60 t548 0).f0) == 2 && ((((rd_T60 t548 0).f1).toList) == (rdOf ByteArray.empty y544 (ji5)).toList && (((rd_T60 t548 0).f2) == 0 && (((rd_T60 t548 0).f3) == 0)))) = true then ((lex_Keyword.f kj10 (rdOf ByteArray.empty y544 (ji5))).bind fun t562 => (if t562 = true then ((trammellaw0_Num.f t555).bind fun t563 => (if t563 = 0 then (if 0 < (t553.length : Int) then (if (((rd_T60 t553 0).f0) == 0 && ((((rd_T60 t553 0).f1).toList) == (((rdOf ByteArray.empty y544 (ji5)) ++ (⟨#[95]⟩ : ByteArray)).toList) && (((rd_T60 t553 0).f2) == 0 && (((rd_T60 t553 0).f3) == 0)))) = true then (if t558 = true then (some false) else (if t559 = true then (if (rdOf ByteArray.empty y544 (ji5)).toList = ([105, 110, 116] : List UInt8) then (if ((rdOf ByteArray.empty y544 (ji5)) ++ (⟨#[32]⟩ : ByteArray)).size + a1.size ≤ 9223372036854775807 then ((lex_Keyword.f kj10 (((rdOf ByteArray.empty y544 (ji5)) ++ (⟨#[32]⟩ : ByteArray)) ++ a1)).bind fun t565 => (if t565 = true then (some false) else (if 1 + (rdOf ByteArray.empty y544 (ji5)).size ≤ 9223372036854775807 then ((lex_Keyword.f kj10 ((⟨#[32]⟩ : ByteArray) ++ (rdOf ByteArray.empty y544 (ji5)))).bind fun t566 => (some (!t566))) else (none)))) else (none)) else (some false)) else (if ((rdOf ByteArray.empty y544 (ji5)) ++ (⟨#[32]⟩ : ByteArray)).size + a1.size ≤ 9223372036854775807 then ((lex_Keyword.f kj10 (((rdOf ByteArray.empty y544 (ji5)) ++ (⟨#[32]⟩ : ByteArray)) ++ a1)).bind fun t567 => (if t567 = true then (some false) else (if 1 + (rdOf ByteArray.empty y544 (ji5)).size ≤ 9223372036854775807 then ((lex_Keyword.f kj10 ((⟨#[32]⟩ : ByteArray) ++ (rdOf ByteArray.empty y544 (ji5)))).bind fun t568 => (some (!t568))) else (none)))) else (none)))) else (some false)) else (none)) else (some false))) else (some false))) else (some false)) else (none)) else (some false)))) else (none)) else (none)) = some r := H
                  have A24 := Aside0.mk A240
                  clear A240
                  obtain ⟨ji25, hji25⟩ : ∃ j_ : Int, (wrap64 (((rdOf ByteArray.empty y544 (ji5)).size : Int) - 1)) = j_ := ⟨_, rfl⟩
                  replace H : (if 0 ≤ (ji25) then (if (ji25) ≤ ((rdOf ByteArray.empty y544 (ji5)).size : Int) then ((lex_Keyword.f kj10 ((rdOf ByteArray.empty y544 (ji5)).extract 0 ((ji25) : Int).toNat)).bind fun t559 => ((trammellaw0_Num.f t550).bind fun t560 => (if t560 = 0 then (if 0 < (t548.length : Int) then (if (((rd_T60 t548 0).f0) == 2 && ((((rd_T60 t548 0).f1).toList) == (rdOf ByteArray.empty y544 (ji5)).toList && (((rd_T60 t548 0).f2) == 0 && (((rd_T60 t548 0).f3) == 0)))) = true then ((lex_Keyword.f kj10 (rdOf ByteArray.empty y544 (ji5))).bind fun t562 => (if t562 = true then ((trammellaw0_Num.f t555).bind fun t563 => (if t563 = 0 then (if 0 < (t553.length : Int) then (if (((rd_T60 t553 0).f0) == 0 && ((((rd_T60 t553 0).f1).toList) == (((rdOf ByteArray.empty y544 (ji5)) ++ (⟨#[95]⟩ : ByteArray)).toList) && (((rd_T60 t553 0).f2) == 0 && (((rd_T60 t553 0).f3) == 0)))) = true then (if t558 = true then (some false) else (if t559 = true then (if (rdOf ByteArray.empty y544 (ji5)).toList = ([105, 110, 116] : List UInt8) then (if ((rdOf ByteArray.empty y544 (ji5)) ++ (⟨#[32]⟩ : ByteArray)).size + a1.size ≤ 9223372036854775807 then ((lex_Keyword.f kj10 (((rdOf ByteArray.empty y544 (ji5)) ++ (⟨#[32]⟩ : ByteArray)) ++ a1)).bind fun t565 => (if t565 = true then (some false) else (if 1 + (rdOf ByteArray.empty y544 (ji5)).size ≤ 9223372036854775807 then ((lex_Keyword.f kj10 ((⟨#[32]⟩ : ByteArray) ++ (rdOf ByteArray.empty y544 (ji5)))).bind fun t566 => (some (!t566))) else (none)))) else (none)) else (some false)) else (if ((rdOf ByteArray.empty y544 (ji5)) ++ (⟨#[32]⟩ : ByteArray)).size + a1.size ≤ 9223372036854775807 then ((lex_Keyword.f kj10 (((rdOf ByteArray.empty y544 (ji5)) ++ (⟨#[32]⟩ : ByteArray)) ++ a1)).bind fun t567 => (if t567 = true then (some false) else (if 1 + (rdOf ByteArray.empty y544 (ji5)).size ≤ 9223372036854775807 then ((lex_Keyword.f kj10 ((⟨#[32]⟩ : ByteArray) ++ (rdOf ByteArray.empty y544 (ji5)))).bind fun t568 => (some (!t568))) else (none)))) else (none)))) else (some false)) else (none)) else (some false))) else (some false))) else (some false)) else (none)) else (some false)))) else (none)) else (none)) = some r := by first | (rw [hji25] at H; exact H) | (simp only [hji25] at H ⊢; exact H)
                  (try rw [hji25] at A24)
                  have hji25w : (IntKind.i64.wrap (((rdOf ByteArray.empty y544 (ji5)).size : Int) - 1)) = ji25 := (i64_w _).trans hji25
                  by_cases c26 : 0 ≤ (ji25)
                  · rw [if_pos c26] at H
                    have c26b0 := eq_true c26
                    have c26b1 : decide (0 ≤ (ji25)) = true := decide_eq_true c26
                    clear c26
                    by_cases c27 : (ji25) ≤ ((rdOf ByteArray.empty y544 (ji5)).size : Int)
                    · rw [if_pos c27] at H
                      have c27b0 := eq_true c27
                      have c27b1 : decide ((ji25) ≤ ((rdOf ByteArray.empty y544 (ji5)).size : Int)) = true := decide_eq_true c27
                      clear c27
                      replace H := Option.bind_eq_some_iff.mp H
                      obtain ⟨t559, A280, H⟩ := H
                      replace H : ((trammellaw0_Num.f t550).bind fun t560 => (if t560 = 0 then (if 0 < (t548.length : Int) then (if (((rd_T60 t548 0).f0) == 2 && ((((rd_T60 t548 0).f1).toList) == (rdOf ByteArray.empty y544 (ji5)).toList && (((rd_T60 t548 0).f2) == 0 && (((rd_T60 t548 0).f3) == 0)))) = true then ((lex_Keyword.f kj10 (rdOf ByteArray.empty y544 (ji5))).bind fun t562 => (if t562 = true then ((trammellaw0_Num.f t555).bind fun t563 => (if t563 = 0 then (if 0 < (t553.length : Int) then (if (((rd_T60 t553 0).f0) == 0 && ((((rd_T60 t553 0).f1).toList) == (((rdOf ByteArray.empty y544 (ji5)) ++ (⟨#[95]⟩ : ByteArray)).toList) && (((rd_T60 t553 0).f2) == 0 && (((rd_T60 t553 0).f3) == 0)))) = true then (if t558 = true then (some false) else (if t559 = true then (if (rdOf ByteArray.empty y544 (ji5)).toList = ([105, 110, 116] : List UInt8) then (if ((rdOf ByteArray.empty y544 (ji5)) ++ (⟨#[32]⟩ : ByteArray)).size + a1.size ≤ 9223372036854775807 then ((lex_Keyword.f kj10 (((rdOf ByteArray.empty y544 (ji5)) ++ (⟨#[32]⟩ : ByteArray)) ++ a1)).bind fun t565 => (if t565 = true then (some false) else (if 1 + (rdOf ByteArray.empty y544 (ji5)).size ≤ 9223372036854775807 then ((lex_Keyword.f kj10 ((⟨#[32]⟩ : ByteArray) ++ (rdOf ByteArray.empty y544 (ji5)))).bind fun t566 => (some (!t566))) else (none)))) else (none)) else (some false)) else (if ((rdOf ByteArray.empty y544 (ji5)) ++ (⟨#[32]⟩ : ByteArray)).size + a1.size ≤ 9223372036854775807 then ((lex_Keyword.f kj10 (((rdOf ByteArray.empty y544 (ji5)) ++ (⟨#[32]⟩ : ByteArray)) ++ a1)).bind fun t567 => (if t567 = true then (some false) else (if 1 + (rdOf ByteArray.empty y544 (ji5)).size ≤ 9223372036854775807 then ((lex_Keyword.f kj10 ((⟨#[32]⟩ : ByteArray) ++ (rdOf ByteArray.empty y544 (ji5)))).bind fun t568 => (some (!t568))) else (none)))) else (none)))) else (some false)) else (none)) else (some false))) else (some false))) else (some false)) else (none)) else (some false))) = some r := H
                      have A28 := Aside0.mk A280
                      clear A280
                      replace H := Option.bind_eq_some_iff.mp H
                      obtain ⟨t560, A290, H⟩ := H
                      replace H : (if t560 = 0 then (if 0 < (t548.length : Int) then (if (((rd_T60 t548 0).f0) == 2 && ((((rd_T60 t548 0).f1).toList) == (rdOf ByteArray.empty y544 (ji5)).toList && (((rd_T60 t548 0).f2) == 0 && (((rd_T60 t548 0).f3) == 0)))) = true then ((lex_Keyword.f kj10 (rdOf ByteArray.empty y544 (ji5))).bind fun t562 => (if t562 = true then ((trammellaw0_Num.f t555).bind fun t563 => (if t563 = 0 then (if 0 < (t553.length : Int) then (if (((rd_T60 t553 0).f0) == 0 && ((((rd_T60 t553 0).f1).toList) == (((rdOf ByteArray.empty y544 (ji5)) ++ (⟨#[95]⟩ : ByteArray)).toList) && (((rd_T60 t553 0).f2) == 0 && (((rd_T60 t553 0).f3) == 0)))) = true then (if t558 = true then (some false) else (if t559 = true then (if (rdOf ByteArray.empty y544 (ji5)).toList = ([105, 110, 116] : List UInt8) then (if ((rdOf ByteArray.empty y544 (ji5)) ++ (⟨#[32]⟩ : ByteArray)).size + a1.size ≤ 9223372036854775807 then ((lex_Keyword.f kj10 (((rdOf ByteArray.empty y544 (ji5)) ++ (⟨#[32]⟩ : ByteArray)) ++ a1)).bind fun t565 => (if t565 = true then (some false) else (if 1 + (rdOf ByteArray.empty y544 (ji5)).size ≤ 9223372036854775807 then ((lex_Keyword.f kj10 ((⟨#[32]⟩ : ByteArray) ++ (rdOf ByteArray.empty y544 (ji5)))).bind fun t566 => (some (!t566))) else (none)))) else (none)) else (some false)) else (if ((rdOf ByteArray.empty y544 (ji5)) ++ (⟨#[32]⟩ : ByteArray)).size + a1.size ≤ 9223372036854775807 then ((lex_Keyword.f kj10 (((rdOf ByteArray.empty y544 (ji5)) ++ (⟨#[32]⟩ : ByteArray)) ++ a1)).bind fun t567 => (if t567 = true then (some false) else (if 1 + (rdOf ByteArray.empty y544 (ji5)).size ≤ 9223372036854775807 then ((lex_Keyword.f kj10 ((⟨#[32]⟩ : ByteArray) ++ (rdOf ByteArray.empty y544 (ji5)))).bind fun t568 => (some (!t568))) else (none)))) else (none)))) else (some false)) else (none)) else (some false))) else (some false))) else (some false)) else (none)) else (some false)) = some r := H
                      have A29 := Aside0.mk A290
                      clear A290
                      by_cases c30 : t560 = 0
                      · rw [if_pos c30] at H
                        have c30b0 : (t560 == 0) = true := beq_iff_eq.mpr c30
                        have c30b1 : (t560 != 0) = false := bne_eq_false_iff_eq.mpr c30
                        clear c30
                        by_cases c31 : 0 < (t548.length : Int)
                        · rw [if_pos c31] at H
                          have c31b0 : decide (0 < (t548.length : Int)) = true := decide_eq_true c31
                          have c31b1 : decide (0 < t548.length) = true := decide_eq_true (by omega)
                          clear c31
                          by_cases c32 : (((rd_T60 t548 0).f0) == 2 && ((((rd_T60 t548 0).f1).toList) == (rdOf ByteArray.empty y544 (ji5)).toList && (((rd_T60 t548 0).f2) == 0 && (((rd_T60 t548 0).f3) == 0)))) = true
                          · rw [if_pos c32] at H
                            have c32b0 : (((rd_T60 t548 0).f0) == 2 && ((((rd_T60 t548 0).f1).toList) == (rdOf ByteArray.empty y544 (ji5)).toList && (((rd_T60 t548 0).f2) == 0 && (((rd_T60 t548 0).f3) == 0)))) = true := c32
                            (try (have c32b1 : decide (((rd_T60 t548 0).f0) = 2 && ((((rd_T60 t548 0).f1).toList) == (rdOf ByteArray.empty y544 (ji5)).toList && (((rd_T60 t548 0).f2) == 0 && (((rd_T60 t548 0).f3) == 0)))) = true := by simpa using c32))
                            (try (have c32b2 : (((rd_T60 t548 0).f0) == 2 && ((((rd_T60 t548 0).f1).toList) == (rdOf ByteArray.empty y544 (ji5)).toList && (((rd_T60 t548 0).f2) == 0 && (((rd_T60 t548 0).f3) == 0)))) = true := by simpa using c32))
                            clear c32
                            replace H := Option.bind_eq_some_iff.mp H
                            obtain ⟨t562, A330, H⟩ := H
                            replace H : (if t562 = true then ((trammellaw0_Num.f t555).bind fun t563 => (if t563 = 0 then (if 0 < (t553.length : Int) then (if (((rd_T60 t553 0).f0) == 0 && ((((rd_T60 t553 0).f1).toList) == (((rdOf ByteArray.empty y544 (ji5)) ++ (⟨#[95]⟩ : ByteArray)).toList) && (((rd_T60 t553 0).f2) == 0 && (((rd_T60 t553 0).f3) == 0)))) = true then (if t558 = true then (some false) else (if t559 = true then (if (rdOf ByteArray.empty y544 (ji5)).toList = ([105, 110, 116] : List UInt8) then (if ((rdOf ByteArray.empty y544 (ji5)) ++ (⟨#[32]⟩ : ByteArray)).size + a1.size ≤ 9223372036854775807 then ((lex_Keyword.f kj10 (((rdOf ByteArray.empty y544 (ji5)) ++ (⟨#[32]⟩ : ByteArray)) ++ a1)).bind fun t565 => (if t565 = true then (some false) else (if 1 + (rdOf ByteArray.empty y544 (ji5)).size ≤ 9223372036854775807 then ((lex_Keyword.f kj10 ((⟨#[32]⟩ : ByteArray) ++ (rdOf ByteArray.empty y544 (ji5)))).bind fun t566 => (some (!t566))) else (none)))) else (none)) else (some false)) else (if ((rdOf ByteArray.empty y544 (ji5)) ++ (⟨#[32]⟩ : ByteArray)).size + a1.size ≤ 9223372036854775807 then ((lex_Keyword.f kj10 (((rdOf ByteArray.empty y544 (ji5)) ++ (⟨#[32]⟩ : ByteArray)) ++ a1)).bind fun t567 => (if t567 = true then (some false) else (if 1 + (rdOf ByteArray.empty y544 (ji5)).size ≤ 9223372036854775807 then ((lex_Keyword.f kj10 ((⟨#[32]⟩ : ByteArray) ++ (rdOf ByteArray.empty y544 (ji5)))).bind fun t568 => (some (!t568))) else (none)))) else (none)))) else (some false)) else (none)) else (some false))) else (some false)) = some r := H
                            have A33 := Aside0.mk A330
                            clear A330
                            by_cases c34 : t562 = true
                            · subst c34
                              have H1 : ((trammellaw0_Num.f t555).bind fun t563 => (if t563 = 0 then (if 0 < (t553.length : Int) then (if (((rd_T60 t553 0).f0) == 0 && ((((rd_T60 t553 0).f1).toList) == (((rdOf ByteArray.empty y544 (ji5)) ++ (⟨#[95]⟩ : ByteArray)).toList) && (((rd_T60 t553 0).f2) == 0 && (((rd_T60 t553 0).f3) == 0)))) = true then (if t558 = true then (some false) else (if t559 = true then (if (rdOf ByteArray.empty y544 (ji5)).toList = ([105, 110, 116] : List UInt8) then (if ((rdOf ByteArray.empty y544 (ji5)) ++ (⟨#[32]⟩ : ByteArray)).size + a1.size ≤ 9223372036854775807 then ((lex_Keyword.f kj10 (((rdOf ByteArray.empty y544 (ji5)) ++ (⟨#[32]⟩ : ByteArray)) ++ a1)).bind fun t565 => (if t565 = true then (some false) else (if 1 + (rdOf ByteArray.empty y544 (ji5)).size ≤ 9223372036854775807 then ((lex_Keyword.f kj10 ((⟨#[32]⟩ : ByteArray) ++ (rdOf ByteArray.empty y544 (ji5)))).bind fun t566 => (some (!t566))) else (none)))) else (none)) else (some false)) else (if ((rdOf ByteArray.empty y544 (ji5)) ++ (⟨#[32]⟩ : ByteArray)).size + a1.size ≤ 9223372036854775807 then ((lex_Keyword.f kj10 (((rdOf ByteArray.empty y544 (ji5)) ++ (⟨#[32]⟩ : ByteArray)) ++ a1)).bind fun t567 => (if t567 = true then (some false) else (if 1 + (rdOf ByteArray.empty y544 (ji5)).size ≤ 9223372036854775807 then ((lex_Keyword.f kj10 ((⟨#[32]⟩ : ByteArray) ++ (rdOf ByteArray.empty y544 (ji5)))).bind fun t568 => (some (!t568))) else (none)))) else (none)))) else (some false)) else (none)) else (some false))) = some r := by rw [if_pos rfl] at H; exact H
                              clear H
                              have H := H1
                              clear H1
                              replace H := Option.bind_eq_some_iff.mp H
                              obtain ⟨t563, A350, H⟩ := H
                              replace H : (if t563 = 0 then (if 0 < (t553.length : Int) then (if (((rd_T60 t553 0).f0) == 0 && ((((rd_T60 t553 0).f1).toList) == (((rdOf ByteArray.empty y544 (ji5)) ++ (⟨#[95]⟩ : ByteArray)).toList) && (((rd_T60 t553 0).f2) == 0 && (((rd_T60 t553 0).f3) == 0)))) = true then (if t558 = true then (some false) else (if t559 = true then (if (rdOf ByteArray.empty y544 (ji5)).toList = ([105, 110, 116] : List UInt8) then (if ((rdOf ByteArray.empty y544 (ji5)) ++ (⟨#[32]⟩ : ByteArray)).size + a1.size ≤ 9223372036854775807 then ((lex_Keyword.f kj10 (((rdOf ByteArray.empty y544 (ji5)) ++ (⟨#[32]⟩ : ByteArray)) ++ a1)).bind fun t565 => (if t565 = true then (some false) else (if 1 + (rdOf ByteArray.empty y544 (ji5)).size ≤ 9223372036854775807 then ((lex_Keyword.f kj10 ((⟨#[32]⟩ : ByteArray) ++ (rdOf ByteArray.empty y544 (ji5)))).bind fun t566 => (some (!t566))) else (none)))) else (none)) else (some false)) else (if ((rdOf ByteArray.empty y544 (ji5)) ++ (⟨#[32]⟩ : ByteArray)).size + a1.size ≤ 9223372036854775807 then ((lex_Keyword.f kj10 (((rdOf ByteArray.empty y544 (ji5)) ++ (⟨#[32]⟩ : ByteArray)) ++ a1)).bind fun t567 => (if t567 = true then (some false) else (if 1 + (rdOf ByteArray.empty y544 (ji5)).size ≤ 9223372036854775807 then ((lex_Keyword.f kj10 ((⟨#[32]⟩ : ByteArray) ++ (rdOf ByteArray.empty y544 (ji5)))).bind fun t568 => (some (!t568))) else (none)))) else (none)))) else (some false)) else (none)) else (some false)) = some r := H
                              have A35 := Aside0.mk A350
                              clear A350
                              by_cases c36 : t563 = 0
                              · rw [if_pos c36] at H
                                have c36b0 : (t563 == 0) = true := beq_iff_eq.mpr c36
                                have c36b1 : (t563 != 0) = false := bne_eq_false_iff_eq.mpr c36
                                clear c36
                                by_cases c37 : 0 < (t553.length : Int)
                                · rw [if_pos c37] at H
                                  have c37b0 : decide (0 < (t553.length : Int)) = true := decide_eq_true c37
                                  have c37b1 : decide (0 < t553.length) = true := decide_eq_true (by omega)
                                  clear c37
                                  by_cases c38 : (((rd_T60 t553 0).f0) == 0 && ((((rd_T60 t553 0).f1).toList) == (((rdOf ByteArray.empty y544 (ji5)) ++ (⟨#[95]⟩ : ByteArray)).toList) && (((rd_T60 t553 0).f2) == 0 && (((rd_T60 t553 0).f3) == 0)))) = true
                                  · rw [if_pos c38] at H
                                    have c38b0 : (((rd_T60 t553 0).f0) == 0 && ((((rd_T60 t553 0).f1).toList) == (((rdOf ByteArray.empty y544 (ji5)) ++ (⟨#[95]⟩ : ByteArray)).toList) && (((rd_T60 t553 0).f2) == 0 && (((rd_T60 t553 0).f3) == 0)))) = true := c38
                                    (try (have c38b1 : decide (((rd_T60 t553 0).f0) = 0 && ((((rd_T60 t553 0).f1).toList) == (((rdOf ByteArray.empty y544 (ji5)) ++ (⟨#[95]⟩ : ByteArray)).toList) && (((rd_T60 t553 0).f2) == 0 && (((rd_T60 t553 0).f3) == 0)))) = true := by simpa using c38))
                                    (try (have c38b2 : (((rd_T60 t553 0).f0) == 0 && ((((rd_T60 t553 0).f1).toList) == (((rdOf ByteArray.empty y544 (ji5)) ++ (⟨#[95]⟩ : ByteArray)).toList) && (((rd_T60 t553 0).f2) == 0 && (((rd_T60 t553 0).f3) == 0)))) = true := by simpa using c38))
                                    clear c38
                                    by_cases c39 : t558 = true
                                    · subst c39
                                      have H1 : (some false) = some r := by rw [if_pos rfl] at H; exact H
                                      clear H
                                      have H := H1
                                      clear H1
                                      exact absurd ((Option.some.inj H).trans HTRUE.out) (by decide)
                                    · replace c39 := Bool.eq_false_iff.mpr c39
                                      subst c39
                                      have H1 : (if t559 = true then (if (rdOf ByteArray.empty y544 (ji5)).toList = ([105, 110, 116] : List UInt8) then (if ((rdOf ByteArray.empty y544 (ji5)) ++ (⟨#[32]⟩ : ByteArray)).size + a1.size ≤ 9223372036854775807 then ((lex_Keyword.f kj10 (((rdOf ByteArray.empty y544 (ji5)) ++ (⟨#[32]⟩ : ByteArray)) ++ a1)).bind fun t565 => (if t565 = true then (some false) else (if 1 + (rdOf ByteArray.empty y544 (ji5)).size ≤ 9223372036854775807 then ((lex_Keyword.f kj10 ((⟨#[32]⟩ : ByteArray) ++ (rdOf ByteArray.empty y544 (ji5)))).bind fun t566 => (some (!t566))) else (none)))) else (none)) else (some false)) else (if ((rdOf ByteArray.empty y544 (ji5)) ++ (⟨#[32]⟩ : ByteArray)).size + a1.size ≤ 9223372036854775807 then ((lex_Keyword.f kj10 (((rdOf ByteArray.empty y544 (ji5)) ++ (⟨#[32]⟩ : ByteArray)) ++ a1)).bind fun t567 => (if t567 = true then (some false) else (if 1 + (rdOf ByteArray.empty y544 (ji5)).size ≤ 9223372036854775807 then ((lex_Keyword.f kj10 ((⟨#[32]⟩ : ByteArray) ++ (rdOf ByteArray.empty y544 (ji5)))).bind fun t568 => (some (!t568))) else (none)))) else (none))) = some r := by rw [if_neg (show ¬ (false = true) by decide)] at H; exact H
                                      clear H
                                      have H := H1
                                      clear H1
                                      by_cases c40 : t559 = true
                                      · subst c40
                                        have H1 : (if (rdOf ByteArray.empty y544 (ji5)).toList = ([105, 110, 116] : List UInt8) then (if ((rdOf ByteArray.empty y544 (ji5)) ++ (⟨#[32]⟩ : ByteArray)).size + a1.size ≤ 9223372036854775807 then ((lex_Keyword.f kj10 (((rdOf ByteArray.empty y544 (ji5)) ++ (⟨#[32]⟩ : ByteArray)) ++ a1)).bind fun t565 => (if t565 = true then (some false) else (if 1 + (rdOf ByteArray.empty y544 (ji5)).size ≤ 9223372036854775807 then ((lex_Keyword.f kj10 ((⟨#[32]⟩ : ByteArray) ++ (rdOf ByteArray.empty y544 (ji5)))).bind fun t566 => (some (!t566))) else (none)))) else (none)) else (some false)) = some r := by rw [if_pos rfl] at H; exact H
                                        clear H
                                        have H := H1
                                        clear H1
                                        by_cases c41 : (rdOf ByteArray.empty y544 (ji5)).toList = ([105, 110, 116] : List UInt8)
                                        · rw [if_pos c41] at H
                                          have c41b0 : ((rdOf ByteArray.empty y544 (ji5)).toList == ([105, 110, 116] : List UInt8)) = true := beq_iff_eq.mpr c41
                                          have c41b1 : ((rdOf ByteArray.empty y544 (ji5)).toList != ([105, 110, 116] : List UInt8)) = false := bne_eq_false_iff_eq.mpr c41
                                          clear c41
                                          by_cases c42 : ((rdOf ByteArray.empty y544 (ji5)) ++ (⟨#[32]⟩ : ByteArray)).size + a1.size ≤ 9223372036854775807
                                          · rw [if_pos c42] at H
                                            have c42b0 := eq_true c42
                                            have c42b1 : decide (((rdOf ByteArray.empty y544 (ji5)) ++ (⟨#[32]⟩ : ByteArray)).size + a1.size ≤ 9223372036854775807) = true := decide_eq_true c42
                                            try have c42b2 : (9223372036854775807 < ((rdOf ByteArray.empty y544 (ji5)) ++ (⟨#[32]⟩ : ByteArray)).size + a1.size) = False := eq_false (Nat.not_lt.2 c42)
                                            replace H := Option.bind_eq_some_iff.mp H
                                            obtain ⟨t565, A430, H⟩ := H
                                            replace H : (if t565 = true then (some false) else (if 1 + (rdOf ByteArray.empty y544 (ji5)).size ≤ 9223372036854775807 then ((lex_Keyword.f kj10 ((⟨#[32]⟩ : ByteArray) ++ (rdOf ByteArray.empty y544 (ji5)))).bind fun t566 => (some (!t566))) else (none))) = some r := H
                                            have A43 := Aside0.mk A430
                                            clear A430
                                            by_cases c44 : t565 = true
                                            · subst c44
                                              have H1 : (some false) = some r := by rw [if_pos rfl] at H; exact H
                                              clear H
                                              have H := H1
                                              clear H1
                                              exact absurd ((Option.some.inj H).trans HTRUE.out) (by decide)
                                            · replace c44 := Bool.eq_false_iff.mpr c44
                                              subst c44
                                              have H1 : (if 1 + (rdOf ByteArray.empty y544 (ji5)).size ≤ 9223372036854775807 then ((lex_Keyword.f kj10 ((⟨#[32]⟩ : ByteArray) ++ (rdOf ByteArray.empty y544 (ji5)))).bind fun t566 => (some (!t566))) else (none)) = some r := by rw [if_neg (show ¬ (false = true) by decide)] at H; exact H
                                              clear H
                                              have H := H1
                                              clear H1
                                              by_cases c45 : 1 + (rdOf ByteArray.empty y544 (ji5)).size ≤ 9223372036854775807
                                              · rw [if_pos c45] at H
                                                have c45b0 := eq_true c45
                                                have c45b1 : decide (1 + (rdOf ByteArray.empty y544 (ji5)).size ≤ 9223372036854775807) = true := decide_eq_true c45
                                                try have c45b2 : (9223372036854775807 < 1 + (rdOf ByteArray.empty y544 (ji5)).size) = False := eq_false (Nat.not_lt.2 c45)
                                                replace H := Option.bind_eq_some_iff.mp H
                                                obtain ⟨t566, A460, H⟩ := H
                                                replace H : (some (!t566)) = some r := H
                                                have A46 := Aside0.mk A460
                                                clear A460
                                                obtain rfl := Option.some.inj H
                                                go_wp2_with (first | ((with_reducible refine gate_callee (f := 30) rfl ?_); refine goesL_ (some 48) rfl rfl Tryd.func30 (by kernel_rfl) rfl #[.string ((rdOf ByteArray.empty y544 (ji5)) ++ (⟨#[120]⟩ : ByteArray))] rfl (by (try simp only [List.map_toArray, List.map_cons, List.map_nil]); first | done | (simp only [hji5]; rfl) | rfl | (simp only [List.length_drop, List.length_take]; rfl)) ?_; (with_reducible refine (lex_Keyword.calls kj10 ((rdOf ByteArray.empty y544 (ji5)) ++ (⟨#[120]⟩ : ByteArray)) false _ A24.out).mono ?_); rintro e w47 ⟨rfl, hb⟩; refine ⟨_, rfl, ?_⟩; have n0_ := Aside0.mk (Kd.R_below (by (with_reducible repeat (first | apply Kd.R_alloc | apply Kd.R_drewN | apply Kd.R_drew)); exact HO_7.out) hb); have n1_ := Aside0.mk (Kd.R_below (by (with_reducible repeat (first | apply Kd.R_alloc | apply Kd.R_drewN | apply Kd.R_drew)); exact HO_10.out) hb); have n2_ := Aside0.mk (below_step (by repeat (first | (with_reducible first | exact HB.out | apply below_alloc | apply pw_below_drewN | apply below_drew1) | exact HB.out)) hb); clear HO_7; clear HO_10; clear HB; have HO_7 := n0_; have HO_10 := n1_; have HB := n2_; clear n0_ n1_ n2_; (try clear hb); (try clear hb2); (try clear hk); (try clear hi)) | ((with_reducible refine gate_callee (f := 30) rfl ?_); refine goesL_ (some 54) rfl rfl Tryd.func30 (by kernel_rfl) rfl #[.string ((rdOf ByteArray.empty y544 (ji5)).extract 0 ((ji25) : Int).toNat)] rfl (by (try simp only [List.map_toArray, List.map_cons, List.map_nil]); first | done | (simp only [hji25, hji5]; rfl) | rfl | (simp only [List.length_drop, List.length_take]; rfl)) ?_; (with_reducible refine (lex_Keyword.calls kj10 ((rdOf ByteArray.empty y544 (ji5)).extract 0 ((ji25) : Int).toNat) true _ A28.out).mono ?_); rintro e w48 ⟨rfl, hb⟩; refine ⟨_, rfl, ?_⟩; have n0_ := Aside0.mk (Kd.R_below (by (with_reducible repeat (first | apply Kd.R_alloc | apply Kd.R_drewN | apply Kd.R_drew)); exact HO_7.out) hb); have n1_ := Aside0.mk (Kd.R_below (by (with_reducible repeat (first | apply Kd.R_alloc | apply Kd.R_drewN | apply Kd.R_drew)); exact HO_10.out) hb); have n2_ := Aside0.mk (below_step (by repeat (first | (with_reducible first | exact HB.out | apply below_alloc | apply pw_below_drewN | apply below_drew1) | exact HB.out)) hb); clear HO_7; clear HO_10; clear HB; have HO_7 := n0_; have HO_10 := n1_; have HB := n2_; clear n0_ n1_ n2_; (try clear hb); (try clear hb2); (try clear hk); (try clear hi)) | ((with_reducible refine gate_callee (f := 18) rfl ?_); refine goesL_ (some 56) rfl rfl Tryd.func18 (by kernel_rfl) rfl #[.int .i64 t550] rfl (by (try simp only [List.map_toArray, List.map_cons, List.map_nil]); first | done | rfl | (simp only [List.length_drop, List.length_take]; rfl)) ?_; (with_reducible refine (trammellaw0_Num.calls t550 t560 _ A29.out).mono ?_); rintro e w' ⟨rfl, ⟨nd, rfl⟩⟩; refine ⟨_, rfl, ?_⟩; obtain ⟨Ao49, co49, eo49⟩ := Kd.R_slice HO_7.out; subst eo49; have p561 : 0 ≤ (0 : Int) := (by omega); have q561 : 0 < (t548.length : Int) := of_decide_eq_true (by first | (with_reducible assumption) | assumption); obtain ⟨ad561, e561, hx561_0, hx561_1, hx561_2, hx561_3⟩ := at_T60 (Kd.R_reads' HO_7.out).2.2 0 p561 q561; cases e561; have qi561 : (0 < t548.length) = True := eq_true (by omega); (try rw [show ((0 : Int)).toNat = 0 from rfl] at hx561_0); (try rw [show 0 * 4 = 0 from rfl] at hx561_0); (try rw [Addr.add_zero'] at hx561_0); (try rw [show ((0 : Int)).toNat = 0 from rfl] at hx561_1); (try rw [show 0 * 4 = 0 from rfl] at hx561_1); (try rw [Addr.add_zero'] at hx561_1); (try rw [show ((0 : Int)).toNat = 0 from rfl] at hx561_2); (try rw [show 0 * 4 = 0 from rfl] at hx561_2); (try rw [Addr.add_zero'] at hx561_2); (try rw [show ((0 : Int)).toNat = 0 from rfl] at hx561_3); (try rw [show 0 * 4 = 0 from rfl] at hx561_3); (try rw [Addr.add_zero'] at hx561_3); replace p561 := eq_true p561; replace q561 := eq_true q561) | (go_at_call 30; (with_reducible refine (lex_Keyword.calls kj10 (rdOf ByteArray.empty y544 (ji5)) true _ A33.out).mono ?_); rintro e w50 ⟨rfl, hb⟩; have n0_ := Aside0.mk (Kd.R_below (by (with_reducible repeat (first | apply Kd.R_alloc | apply Kd.R_drewN | apply Kd.R_drew)); exact HO_7.out) hb); have n1_ := Aside0.mk (Kd.R_below (by (with_reducible repeat (first | apply Kd.R_alloc | apply Kd.R_drewN | apply Kd.R_drew)); exact HO_10.out) hb); have n2_ := Aside0.mk (below_step (by repeat (first | (with_reducible first | exact HB.out | apply below_alloc | apply pw_below_drewN | apply below_drew1) | exact HB.out)) hb); clear HO_7; clear HO_10; clear HB; have HO_7 := n0_; have HO_10 := n1_; have HB := n2_; clear n0_ n1_ n2_; (try clear hb); (try clear hb2); (try clear hk); (try clear hi)) | (go_at_call 18; (with_reducible refine (trammellaw0_Num.calls t555 t563 _ A35.out).mono ?_); rintro e w' ⟨rfl, ⟨nd, rfl⟩⟩; obtain ⟨Ao51, co51, eo51⟩ := Kd.R_slice HO_10.out; subst eo51; have p564 : 0 ≤ (0 : Int) := (by omega); have q564 : 0 < (t553.length : Int) := of_decide_eq_true (by first | (with_reducible assumption) | assumption); obtain ⟨ad564, e564, hx564_0, hx564_1, hx564_2, hx564_3⟩ := at_T60 (Kd.R_reads' HO_10.out).2.2 0 p564 q564; cases e564; have qi564 : (0 < t553.length) = True := eq_true (by omega); (try rw [show ((0 : Int)).toNat = 0 from rfl] at hx564_0); (try rw [show 0 * 4 = 0 from rfl] at hx564_0); (try rw [Addr.add_zero'] at hx564_0); (try rw [show ((0 : Int)).toNat = 0 from rfl] at hx564_1); (try rw [show 0 * 4 = 0 from rfl] at hx564_1); (try rw [Addr.add_zero'] at hx564_1); (try rw [show ((0 : Int)).toNat = 0 from rfl] at hx564_2); (try rw [show 0 * 4 = 0 from rfl] at hx564_2); (try rw [Addr.add_zero'] at hx564_2); (try rw [show ((0 : Int)).toNat = 0 from rfl] at hx564_3); (try rw [show 0 * 4 = 0 from rfl] at hx564_3); (try rw [Addr.add_zero'] at hx564_3); replace p564 := eq_true p564; replace q564 := eq_true q564) | (go_at_call 30; (with_reducible refine (lex_Keyword.calls kj10 (((rdOf ByteArray.empty y544 (ji5)) ++ (⟨#[32]⟩ : ByteArray)) ++ a1) false _ A43.out).mono ?_); rintro e w52 ⟨rfl, hb⟩; have n0_ := Aside0.mk (Kd.R_below (by (with_reducible repeat (first | apply Kd.R_alloc | apply Kd.R_drewN | apply Kd.R_drew)); exact HO_7.out) hb); have n1_ := Aside0.mk (Kd.R_below (by (with_reducible repeat (first | apply Kd.R_alloc | apply Kd.R_drewN | apply Kd.R_drew)); exact HO_10.out) hb); have n2_ := Aside0.mk (below_step (by repeat (first | (with_reducible first | exact HB.out | apply below_alloc | apply pw_below_drewN | apply below_drew1) | exact HB.out)) hb); clear HO_7; clear HO_10; clear HB; have HO_7 := n0_; have HO_10 := n1_; have HB := n2_; clear n0_ n1_ n2_; (try clear hb); (try clear hb2); (try clear hk); (try clear hi)) | (go_at_call 30; (with_reducible refine (lex_Keyword.calls kj10 ((⟨#[32]⟩ : ByteArray) ++ (rdOf ByteArray.empty y544 (ji5))) t566 _ A46.out).mono ?_); rintro e w53 ⟨rfl, hb⟩; have n0_ := Aside0.mk (Kd.R_below (by (with_reducible repeat (first | apply Kd.R_alloc | apply Kd.R_drewN | apply Kd.R_drew)); exact HO_7.out) hb); have n1_ := Aside0.mk (Kd.R_below (by (with_reducible repeat (first | apply Kd.R_alloc | apply Kd.R_drewN | apply Kd.R_drew)); exact HO_10.out) hb); have n2_ := Aside0.mk (below_step (by repeat (first | (with_reducible first | exact HB.out | apply below_alloc | apply pw_below_drewN | apply below_drew1) | exact HB.out)) hb); clear HO_7; clear HO_10; clear HB; have HO_7 := n0_; have HO_10 := n1_; have HB := n2_; clear n0_ n1_ n2_; (try clear hb); (try clear hb2); (try clear hk); (try clear hi)))
                                                go_ret
                                                exact ⟨by first | rfl | (simp [errW_none, errW_some] <;> rfl) | (simp only [← hji5, ← hji25]; first | rfl | (simp [errW_none, errW_some] <;> rfl)) | (simp [*, errW_none, errW_some] <;> rfl), by repeat (first | (with_reducible first | exact HB.out | apply below_alloc | apply pw_below_drewN | apply below_drew1) | exact HB.out)⟩
                                              · rw [if_neg c45] at H
                                                exact absurd H (by simp)
                                          · rw [if_neg c42] at H
                                            exact absurd H (by simp)
                                        · rw [if_neg c41] at H
                                          have c41b0 : ((rdOf ByteArray.empty y544 (ji5)).toList == ([105, 110, 116] : List UInt8)) = false := beq_eq_false_iff_ne.mpr c41
                                          have c41b1 : ((rdOf ByteArray.empty y544 (ji5)).toList != ([105, 110, 116] : List UInt8)) = true := bne_iff_ne.mpr c41
                                          exact absurd ((Option.some.inj H).trans HTRUE.out) (by decide)
                                      · replace c40 := Bool.eq_false_iff.mpr c40
                                        subst c40
                                        have H1 : (if ((rdOf ByteArray.empty y544 (ji5)) ++ (⟨#[32]⟩ : ByteArray)).size + a1.size ≤ 9223372036854775807 then ((lex_Keyword.f kj10 (((rdOf ByteArray.empty y544 (ji5)) ++ (⟨#[32]⟩ : ByteArray)) ++ a1)).bind fun t567 => (if t567 = true then (some false) else (if 1 + (rdOf ByteArray.empty y544 (ji5)).size ≤ 9223372036854775807 then ((lex_Keyword.f kj10 ((⟨#[32]⟩ : ByteArray) ++ (rdOf ByteArray.empty y544 (ji5)))).bind fun t568 => (some (!t568))) else (none)))) else (none)) = some r := by rw [if_neg (show ¬ (false = true) by decide)] at H; exact H
                                        clear H
                                        have H := H1
                                        clear H1
                                        by_cases c54 : ((rdOf ByteArray.empty y544 (ji5)) ++ (⟨#[32]⟩ : ByteArray)).size + a1.size ≤ 9223372036854775807
                                        · rw [if_pos c54] at H
                                          have c54b0 := eq_true c54
                                          have c54b1 : decide (((rdOf ByteArray.empty y544 (ji5)) ++ (⟨#[32]⟩ : ByteArray)).size + a1.size ≤ 9223372036854775807) = true := decide_eq_true c54
                                          try have c54b2 : (9223372036854775807 < ((rdOf ByteArray.empty y544 (ji5)) ++ (⟨#[32]⟩ : ByteArray)).size + a1.size) = False := eq_false (Nat.not_lt.2 c54)
                                          replace H := Option.bind_eq_some_iff.mp H
                                          obtain ⟨t567, A550, H⟩ := H
                                          replace H : (if t567 = true then (some false) else (if 1 + (rdOf ByteArray.empty y544 (ji5)).size ≤ 9223372036854775807 then ((lex_Keyword.f kj10 ((⟨#[32]⟩ : ByteArray) ++ (rdOf ByteArray.empty y544 (ji5)))).bind fun t568 => (some (!t568))) else (none))) = some r := H
                                          have A55 := Aside0.mk A550
                                          clear A550
                                          by_cases c56 : t567 = true
                                          · subst c56
                                            have H1 : (some false) = some r := by rw [if_pos rfl] at H; exact H
                                            clear H
                                            have H := H1
                                            clear H1
                                            exact absurd ((Option.some.inj H).trans HTRUE.out) (by decide)
                                          · replace c56 := Bool.eq_false_iff.mpr c56
                                            subst c56
                                            have H1 : (if 1 + (rdOf ByteArray.empty y544 (ji5)).size ≤ 9223372036854775807 then ((lex_Keyword.f kj10 ((⟨#[32]⟩ : ByteArray) ++ (rdOf ByteArray.empty y544 (ji5)))).bind fun t568 => (some (!t568))) else (none)) = some r := by rw [if_neg (show ¬ (false = true) by decide)] at H; exact H
                                            clear H
                                            have H := H1
                                            clear H1
                                            by_cases c57 : 1 + (rdOf ByteArray.empty y544 (ji5)).size ≤ 9223372036854775807
                                            · rw [if_pos c57] at H
                                              have c57b0 := eq_true c57
                                              have c57b1 : decide (1 + (rdOf ByteArray.empty y544 (ji5)).size ≤ 9223372036854775807) = true := decide_eq_true c57
                                              try have c57b2 : (9223372036854775807 < 1 + (rdOf ByteArray.empty y544 (ji5)).size) = False := eq_false (Nat.not_lt.2 c57)
                                              replace H := Option.bind_eq_some_iff.mp H
                                              obtain ⟨t568, A580, H⟩ := H
                                              replace H : (some (!t568)) = some r := H
                                              have A58 := Aside0.mk A580
                                              clear A580
                                              obtain rfl := Option.some.inj H
                                              go_wp2_with (first | ((with_reducible refine gate_callee (f := 30) rfl ?_); refine goesL_ (some 48) rfl rfl Tryd.func30 (by kernel_rfl) rfl #[.string ((rdOf ByteArray.empty y544 (ji5)) ++ (⟨#[120]⟩ : ByteArray))] rfl (by (try simp only [List.map_toArray, List.map_cons, List.map_nil]); first | done | (simp only [hji5]; rfl) | rfl | (simp only [List.length_drop, List.length_take]; rfl)) ?_; (with_reducible refine (lex_Keyword.calls kj10 ((rdOf ByteArray.empty y544 (ji5)) ++ (⟨#[120]⟩ : ByteArray)) false _ A24.out).mono ?_); rintro e w59 ⟨rfl, hb⟩; refine ⟨_, rfl, ?_⟩; have n0_ := Aside0.mk (Kd.R_below (by (with_reducible repeat (first | apply Kd.R_alloc | apply Kd.R_drewN | apply Kd.R_drew)); exact HO_7.out) hb); have n1_ := Aside0.mk (Kd.R_below (by (with_reducible repeat (first | apply Kd.R_alloc | apply Kd.R_drewN | apply Kd.R_drew)); exact HO_10.out) hb); have n2_ := Aside0.mk (below_step (by repeat (first | (with_reducible first | exact HB.out | apply below_alloc | apply pw_below_drewN | apply below_drew1) | exact HB.out)) hb); clear HO_7; clear HO_10; clear HB; have HO_7 := n0_; have HO_10 := n1_; have HB := n2_; clear n0_ n1_ n2_; (try clear hb); (try clear hb2); (try clear hk); (try clear hi)) | ((with_reducible refine gate_callee (f := 30) rfl ?_); refine goesL_ (some 54) rfl rfl Tryd.func30 (by kernel_rfl) rfl #[.string ((rdOf ByteArray.empty y544 (ji5)).extract 0 ((ji25) : Int).toNat)] rfl (by (try simp only [List.map_toArray, List.map_cons, List.map_nil]); first | done | (simp only [hji25, hji5]; rfl) | rfl | (simp only [List.length_drop, List.length_take]; rfl)) ?_; (with_reducible refine (lex_Keyword.calls kj10 ((rdOf ByteArray.empty y544 (ji5)).extract 0 ((ji25) : Int).toNat) false _ A28.out).mono ?_); rintro e w60 ⟨rfl, hb⟩; refine ⟨_, rfl, ?_⟩; have n0_ := Aside0.mk (Kd.R_below (by (with_reducible repeat (first | apply Kd.R_alloc | apply Kd.R_drewN | apply Kd.R_drew)); exact HO_7.out) hb); have n1_ := Aside0.mk (Kd.R_below (by (with_reducible repeat (first | apply Kd.R_alloc | apply Kd.R_drewN | apply Kd.R_drew)); exact HO_10.out) hb); have n2_ := Aside0.mk (below_step (by repeat (first | (with_reducible first | exact HB.out | apply below_alloc | apply pw_below_drewN | apply below_drew1) | exact HB.out)) hb); clear HO_7; clear HO_10; clear HB; have HO_7 := n0_; have HO_10 := n1_; have HB := n2_; clear n0_ n1_ n2_; (try clear hb); (try clear hb2); (try clear hk); (try clear hi)) | ((with_reducible refine gate_callee (f := 18) rfl ?_); refine goesL_ (some 56) rfl rfl Tryd.func18 (by kernel_rfl) rfl #[.int .i64 t550] rfl (by (try simp only [List.map_toArray, List.map_cons, List.map_nil]); first | done | rfl | (simp only [List.length_drop, List.length_take]; rfl)) ?_; (with_reducible refine (trammellaw0_Num.calls t550 t560 _ A29.out).mono ?_); rintro e w' ⟨rfl, ⟨nd, rfl⟩⟩; refine ⟨_, rfl, ?_⟩; obtain ⟨Ao61, co61, eo61⟩ := Kd.R_slice HO_7.out; subst eo61; have p561 : 0 ≤ (0 : Int) := (by omega); have q561 : 0 < (t548.length : Int) := of_decide_eq_true (by first | (with_reducible assumption) | assumption); obtain ⟨ad561, e561, hx561_0, hx561_1, hx561_2, hx561_3⟩ := at_T60 (Kd.R_reads' HO_7.out).2.2 0 p561 q561; cases e561; have qi561 : (0 < t548.length) = True := eq_true (by omega); (try rw [show ((0 : Int)).toNat = 0 from rfl] at hx561_0); (try rw [show 0 * 4 = 0 from rfl] at hx561_0); (try rw [Addr.add_zero'] at hx561_0); (try rw [show ((0 : Int)).toNat = 0 from rfl] at hx561_1); (try rw [show 0 * 4 = 0 from rfl] at hx561_1); (try rw [Addr.add_zero'] at hx561_1); (try rw [show ((0 : Int)).toNat = 0 from rfl] at hx561_2); (try rw [show 0 * 4 = 0 from rfl] at hx561_2); (try rw [Addr.add_zero'] at hx561_2); (try rw [show ((0 : Int)).toNat = 0 from rfl] at hx561_3); (try rw [show 0 * 4 = 0 from rfl] at hx561_3); (try rw [Addr.add_zero'] at hx561_3); replace p561 := eq_true p561; replace q561 := eq_true q561) | (go_at_call 30; (with_reducible refine (lex_Keyword.calls kj10 (rdOf ByteArray.empty y544 (ji5)) true _ A33.out).mono ?_); rintro e w62 ⟨rfl, hb⟩; have n0_ := Aside0.mk (Kd.R_below (by (with_reducible repeat (first | apply Kd.R_alloc | apply Kd.R_drewN | apply Kd.R_drew)); exact HO_7.out) hb); have n1_ := Aside0.mk (Kd.R_below (by (with_reducible repeat (first | apply Kd.R_alloc | apply Kd.R_drewN | apply Kd.R_drew)); exact HO_10.out) hb); have n2_ := Aside0.mk (below_step (by repeat (first | (with_reducible first | exact HB.out | apply below_alloc | apply pw_below_drewN | apply below_drew1) | exact HB.out)) hb); clear HO_7; clear HO_10; clear HB; have HO_7 := n0_; have HO_10 := n1_; have HB := n2_; clear n0_ n1_ n2_; (try clear hb); (try clear hb2); (try clear hk); (try clear hi)) | (go_at_call 18; (with_reducible refine (trammellaw0_Num.calls t555 t563 _ A35.out).mono ?_); rintro e w' ⟨rfl, ⟨nd, rfl⟩⟩; obtain ⟨Ao63, co63, eo63⟩ := Kd.R_slice HO_10.out; subst eo63; have p564 : 0 ≤ (0 : Int) := (by omega); have q564 : 0 < (t553.length : Int) := of_decide_eq_true (by first | (with_reducible assumption) | assumption); obtain ⟨ad564, e564, hx564_0, hx564_1, hx564_2, hx564_3⟩ := at_T60 (Kd.R_reads' HO_10.out).2.2 0 p564 q564; cases e564; have qi564 : (0 < t553.length) = True := eq_true (by omega); (try rw [show ((0 : Int)).toNat = 0 from rfl] at hx564_0); (try rw [show 0 * 4 = 0 from rfl] at hx564_0); (try rw [Addr.add_zero'] at hx564_0); (try rw [show ((0 : Int)).toNat = 0 from rfl] at hx564_1); (try rw [show 0 * 4 = 0 from rfl] at hx564_1); (try rw [Addr.add_zero'] at hx564_1); (try rw [show ((0 : Int)).toNat = 0 from rfl] at hx564_2); (try rw [show 0 * 4 = 0 from rfl] at hx564_2); (try rw [Addr.add_zero'] at hx564_2); (try rw [show ((0 : Int)).toNat = 0 from rfl] at hx564_3); (try rw [show 0 * 4 = 0 from rfl] at hx564_3); (try rw [Addr.add_zero'] at hx564_3); replace p564 := eq_true p564; replace q564 := eq_true q564) | (go_at_call 30; (with_reducible refine (lex_Keyword.calls kj10 (((rdOf ByteArray.empty y544 (ji5)) ++ (⟨#[32]⟩ : ByteArray)) ++ a1) false _ A55.out).mono ?_); rintro e w64 ⟨rfl, hb⟩; have n0_ := Aside0.mk (Kd.R_below (by (with_reducible repeat (first | apply Kd.R_alloc | apply Kd.R_drewN | apply Kd.R_drew)); exact HO_7.out) hb); have n1_ := Aside0.mk (Kd.R_below (by (with_reducible repeat (first | apply Kd.R_alloc | apply Kd.R_drewN | apply Kd.R_drew)); exact HO_10.out) hb); have n2_ := Aside0.mk (below_step (by repeat (first | (with_reducible first | exact HB.out | apply below_alloc | apply pw_below_drewN | apply below_drew1) | exact HB.out)) hb); clear HO_7; clear HO_10; clear HB; have HO_7 := n0_; have HO_10 := n1_; have HB := n2_; clear n0_ n1_ n2_; (try clear hb); (try clear hb2); (try clear hk); (try clear hi)) | (go_at_call 30; (with_reducible refine (lex_Keyword.calls kj10 ((⟨#[32]⟩ : ByteArray) ++ (rdOf ByteArray.empty y544 (ji5))) t568 _ A58.out).mono ?_); rintro e w65 ⟨rfl, hb⟩; have n0_ := Aside0.mk (Kd.R_below (by (with_reducible repeat (first | apply Kd.R_alloc | apply Kd.R_drewN | apply Kd.R_drew)); exact HO_7.out) hb); have n1_ := Aside0.mk (Kd.R_below (by (with_reducible repeat (first | apply Kd.R_alloc | apply Kd.R_drewN | apply Kd.R_drew)); exact HO_10.out) hb); have n2_ := Aside0.mk (below_step (by repeat (first | (with_reducible first | exact HB.out | apply below_alloc | apply pw_below_drewN | apply below_drew1) | exact HB.out)) hb); clear HO_7; clear HO_10; clear HB; have HO_7 := n0_; have HO_10 := n1_; have HB := n2_; clear n0_ n1_ n2_; (try clear hb); (try clear hb2); (try clear hk); (try clear hi)))
                                              go_ret
                                              exact ⟨by first | rfl | (simp [errW_none, errW_some] <;> rfl) | (simp only [← hji5, ← hji25]; first | rfl | (simp [errW_none, errW_some] <;> rfl)) | (simp [*, errW_none, errW_some] <;> rfl), by repeat (first | (with_reducible first | exact HB.out | apply below_alloc | apply pw_below_drewN | apply below_drew1) | exact HB.out)⟩
                                            · rw [if_neg c57] at H
                                              exact absurd H (by simp)
                                        · rw [if_neg c54] at H
                                          exact absurd H (by simp)
                                  · rw [if_neg c38] at H
                                    have c38b0 : (((rd_T60 t553 0).f0) == 0 && ((((rd_T60 t553 0).f1).toList) == (((rdOf ByteArray.empty y544 (ji5)) ++ (⟨#[95]⟩ : ByteArray)).toList) && (((rd_T60 t553 0).f2) == 0 && (((rd_T60 t553 0).f3) == 0)))) = false := by simpa using c38
                                    (try (have c38b1 : decide (((rd_T60 t553 0).f0) = 0 && ((((rd_T60 t553 0).f1).toList) == (((rdOf ByteArray.empty y544 (ji5)) ++ (⟨#[95]⟩ : ByteArray)).toList) && (((rd_T60 t553 0).f2) == 0 && (((rd_T60 t553 0).f3) == 0)))) = false := by simpa using c38))
                                    (try (have c38b2 : (((rd_T60 t553 0).f0) == 0 && ((((rd_T60 t553 0).f1).toList) == (((rdOf ByteArray.empty y544 (ji5)) ++ (⟨#[95]⟩ : ByteArray)).toList) && (((rd_T60 t553 0).f2) == 0 && (((rd_T60 t553 0).f3) == 0)))) = false := by simpa using c38))
                                    (try (have c38b3 : ¬ (((rd_T60 t553 0).f0) = 0 && ((((rd_T60 t553 0).f1).toList) == (((rdOf ByteArray.empty y544 (ji5)) ++ (⟨#[95]⟩ : ByteArray)).toList) && (((rd_T60 t553 0).f2) == 0 && (((rd_T60 t553 0).f3) == 0)))) := by simpa using c38))
                                    clear c38
                                    exact absurd ((Option.some.inj H).trans HTRUE.out) (by decide)
                                · rw [if_neg c37] at H
                                  exact absurd H (by simp)
                              · rw [if_neg c36] at H
                                have c36b0 : (t563 == 0) = false := beq_eq_false_iff_ne.mpr c36
                                have c36b1 : (t563 != 0) = true := bne_iff_ne.mpr c36
                                exact absurd ((Option.some.inj H).trans HTRUE.out) (by decide)
                            · replace c34 := Bool.eq_false_iff.mpr c34
                              subst c34
                              have H1 : (some false) = some r := by rw [if_neg (show ¬ (false = true) by decide)] at H; exact H
                              clear H
                              have H := H1
                              clear H1
                              exact absurd ((Option.some.inj H).trans HTRUE.out) (by decide)
                          · rw [if_neg c32] at H
                            have c32b0 : (((rd_T60 t548 0).f0) == 2 && ((((rd_T60 t548 0).f1).toList) == (rdOf ByteArray.empty y544 (ji5)).toList && (((rd_T60 t548 0).f2) == 0 && (((rd_T60 t548 0).f3) == 0)))) = false := by simpa using c32
                            (try (have c32b1 : decide (((rd_T60 t548 0).f0) = 2 && ((((rd_T60 t548 0).f1).toList) == (rdOf ByteArray.empty y544 (ji5)).toList && (((rd_T60 t548 0).f2) == 0 && (((rd_T60 t548 0).f3) == 0)))) = false := by simpa using c32))
                            (try (have c32b2 : (((rd_T60 t548 0).f0) == 2 && ((((rd_T60 t548 0).f1).toList) == (rdOf ByteArray.empty y544 (ji5)).toList && (((rd_T60 t548 0).f2) == 0 && (((rd_T60 t548 0).f3) == 0)))) = false := by simpa using c32))
                            (try (have c32b3 : ¬ (((rd_T60 t548 0).f0) = 2 && ((((rd_T60 t548 0).f1).toList) == (rdOf ByteArray.empty y544 (ji5)).toList && (((rd_T60 t548 0).f2) == 0 && (((rd_T60 t548 0).f3) == 0)))) := by simpa using c32))
                            clear c32
                            exact absurd ((Option.some.inj H).trans HTRUE.out) (by decide)
                        · rw [if_neg c31] at H
                          exact absurd H (by simp)
                      · rw [if_neg c30] at H
                        have c30b0 : (t560 == 0) = false := beq_eq_false_iff_ne.mpr c30
                        have c30b1 : (t560 != 0) = true := bne_iff_ne.mpr c30
                        exact absurd ((Option.some.inj H).trans HTRUE.out) (by decide)
                    · rw [if_neg c27] at H
                      exact absurd H (by simp)
                  · rw [if_neg c26] at H
                    exact absurd H (by simp)
                · rw [if_neg c23] at H
                  exact absurd H (by simp)
        · rw [if_neg c9] at H
          exact absurd H (by simp)
      · rw [if_neg c7] at H
        exact absurd H (by simp)
    · rw [if_neg c6] at H
      exact absurd H (by simp)
  · replace c4 := Bool.eq_false_iff.mpr c4
    subst c4
    have H1 : (some false) = some r := by rw [if_neg (show ¬ (false = true) by decide)] at H; exact H
    clear H
    have H := H1
    clear H1
    exact absurd ((Option.some.inj H).trans HTRUE.out) (by decide)

end Go.Proofs.YtnogfhhfklkbiaaDoor.H
