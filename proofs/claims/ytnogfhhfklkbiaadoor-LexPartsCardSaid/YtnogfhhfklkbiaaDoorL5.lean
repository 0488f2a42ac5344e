/- Several texts in one: contracts of functions of the program, and what they lean on. In part written by a program of this session over the kit's print, in part by hand. -/
import Derived.Test.YtnogfhhfklkbiaaDoorL0
import Derived.Test.YtnogfhhfklkbiaaDoorL4
import Derived.Test.YtnogfhhfklkbiaaDoorL3
import Derived.Test.YtnogfhhfklkbiaaDoorL2
namespace Go.Proofs.YtnogfhhfklkbiaaDoor.H
open Go.RowKit Go.Proofs.YtnogfhhfklkbiaaDoorW.PrintWords Go.Proofs.YtnogfhhfklkbiaaDoorW.PrintLast Go.Proofs.YtnogfhhfklkbiaaDoorW.PrintMore
attribute [local go_sem] max2_int min2_int max_two min_two max_three min_three max_four min_four   -- for this text's walks alone
set_option linter.unusedVariables false
set_option linter.unusedSimpArgs false

/-! ### trammelref1_Valid: function 57 -/
def trammelref1_Valid.l0 : Nat → ByteArray → Int → Option (Int × Bool)
  | 0, _, _ => none
  | k + 1, x0, x4 => if x4 < (x0.size : Int) then ((trammelref1_Width.f k x0 x4).bind fun t155 => (if t155 = 0 then (some (x4, false)) else (trammelref1_Valid.l0 k x0 (wrap64 (x4 + t155))))) else (some (0, true))
def trammelref1_Valid.f (k : Nat) (a0 : ByteArray) : Option (Int × Bool) := trammelref1_Valid.l0 k a0 0
theorem trammelref1_Valid.mono_l : ∀ k, (∀ y0 y1, LeO (trammelref1_Valid.l0 k y0 y1) (trammelref1_Valid.l0 (k + 1) y0 y1))
  | 0 => fun _ _ r h => by simp [trammelref1_Valid.l0] at h
  | k + 1 => by
    have ih0 := trammelref1_Valid.mono_l k
    · intro y0 y1
      unfold trammelref1_Valid.l0
      repeat' first
      | (with_reducible exact ih0 _ _)
      | (with_reducible exact trammelref1_Width.mono _ _ _)
      | (with_reducible exact LeO.refl _)
      | (with_reducible exact LeO.none _)
      | (with_reducible refine LeO.ite ?_ ?_)
      | (with_reducible refine LeO.bind ?_ (fun _ => ?_))
      | exact ih0 _ _
      | exact trammelref1_Width.mono _ _ _
      | exact LeO.none _
      | refine LeO.ite ?_ ?_
      | refine LeO.bind ?_ (fun _ => ?_)
theorem trammelref1_Valid.mono : ∀ a0 k, LeO (trammelref1_Valid.f k a0) (trammelref1_Valid.f (k + 1) a0) := by
  intro a0 k
  have ih0 := trammelref1_Valid.mono_l k
  unfold trammelref1_Valid.f
  repeat' first
      | (with_reducible exact ih0 _ _)
      | (with_reducible exact trammelref1_Width.mono _ _ _)
      | (with_reducible exact LeO.refl _)
      | (with_reducible exact LeO.none _)
      | (with_reducible refine LeO.ite ?_ ?_)
      | (with_reducible refine LeO.bind ?_ (fun _ => ?_))
      | exact ih0 _ _
      | exact trammelref1_Width.mono _ _ _
      | exact LeO.none _
      | refine LeO.ite ?_ ?_
      | refine LeO.bind ?_ (fun _ => ?_)
set_option maxHeartbeats 8000000 in
set_option maxRecDepth 100000 in
theorem trammelref1_Valid.calls (k : Nat) (a0 : ByteArray) (r1 : Int) (r2 : Bool) (w : World) (h : trammelref1_Valid.f k a0 = some (r1, r2)) :
    Calls Tryd.prog 57 #[.string a0] w fun e w' => e = .returned (.tuple #[.int .i64 r1, .bool r2]) ∧ Drawn0 w w' := by
  have H : (trammelref1_Valid.l0 k a0 0) = some (r1, r2) := h
  clear h
  have H' := Aside0.mk H
  clear H
  go_enter Tryd.func57, Tryd.ntmps57
  go_wp2
  go_loopg [4] k (fun kq v4 w' => ∃ (x4_1 : Int), v4 = .int .i64 x4_1 ∧ Aside0 (trammelref1_Valid.l0 kq a0 x4_1 = some (r1, r2)) ∧ Aside0 (kq ≤ k) ∧ Drawn0 w w')
  case atStart => exact ⟨(0), (by first | rfl | (simp; done) | (simp [*]; done)), H', ⟨Nat.le_refl _⟩, by repeat (first | exact Drawn0.refl _ | apply Drawn0.step)⟩
  case round =>
    clear H'
    obtain ⟨x4_1, rfl, HA, HK1, ⟨m1, rfl⟩⟩ := hrel
    cases gk with
    | zero => exact absurd HA.out (by simp [trammelref1_Valid.l0])
    | succ k1 =>
      have H := HA.out
      clear HA
      simp only [trammelref1_Valid.l0] at H
      by_cases c2 : x4_1 < (a0.size : Int)
      · rw [if_pos c2] at H
        have c2b0 : decide (x4_1 < (a0.size : Int)) = true := decide_eq_true c2
        clear c2
        replace H := Option.bind_eq_some_iff.mp H
        obtain ⟨t155, A30, H⟩ := H
        replace H : (if t155 = 0 then (some (x4_1, false)) else (trammelref1_Valid.l0 k1 a0 (wrap64 (x4_1 + t155)))) = some (r1, r2) := H
        have A3 := Aside0.mk A30
        clear A30
        by_cases c4 : t155 = 0
        · rw [if_pos c4] at H
          have c4b0 : (t155 == 0) = true := beq_iff_eq.mpr c4
          have c4b1 : (t155 != 0) = false := bne_eq_false_iff_eq.mpr c4
          clear c4
          simp only [Option.some.injEq, Prod.mk.injEq] at H
          obtain ⟨rfl, rfl⟩ := H
          go_wp2_with (first | ((with_reducible refine gate_callee (f := 82) rfl ?_); refine goesL_ (some 12) rfl rfl Tryd.func82 (by kernel_rfl) rfl #[.string a0, .int .i64 x4_1] rfl (by (try simp only [List.map_toArray, List.map_cons, List.map_nil]); first | done | rfl | (simp only [List.length_drop, List.length_take]; rfl)) ?_; (with_reducible refine (trammelref1_Width.calls k1 a0 x4_1 t155 _ A3.out).mono ?_); rintro e w' ⟨rfl, ⟨nd, rfl⟩⟩; refine ⟨_, rfl, ?_⟩))
          go_ret2
          exact ⟨by first | rfl | (simp; done) | (simp [*]; done), by repeat (first | exact Drawn0.refl _ | apply Drawn0.step)⟩
        · rw [if_neg c4] at H
          have c4b0 : (t155 == 0) = false := beq_eq_false_iff_ne.mpr c4
          have c4b1 : (t155 != 0) = true := bne_iff_ne.mpr c4
          have H' := Aside0.mk H
          clear H
          go_wp2_with (first | ((with_reducible refine gate_callee (f := 82) rfl ?_); refine goesL_ (some 12) rfl rfl Tryd.func82 (by kernel_rfl) rfl #[.string a0, .int .i64 x4_1] rfl (by (try simp only [List.map_toArray, List.map_cons, List.map_nil]); first | done | rfl | (simp only [List.length_drop, List.length_take]; rfl)) ?_; (with_reducible refine (trammelref1_Width.calls k1 a0 x4_1 t155 _ A3.out).mono ?_); rintro e w' ⟨rfl, ⟨nd, rfl⟩⟩; refine ⟨_, rfl, ?_⟩))
          go_roundg k1
          case measure => have := HK1.out; omega
          case rel => exact ⟨(wrap64 (x4_1 + t155)), (by first | rfl | (simp; done) | (simp [*]; done)), H', ⟨by have := HK1.out; omega⟩, by repeat (first | exact Drawn0.refl _ | apply Drawn0.step)⟩
      · rw [if_neg c2] at H
        have c2b0 : decide (x4_1 < (a0.size : Int)) = false := decide_eq_false c2
        clear c2
        simp only [Option.some.injEq, Prod.mk.injEq] at H
        obtain ⟨rfl, rfl⟩ := H
        go_wp2
        go_ret2
        exact ⟨by first | rfl | (simp; done) | (simp [*]; done), by repeat (first | exact Drawn0.refl _ | apply Drawn0.step)⟩

end Go.Proofs.YtnogfhhfklkbiaaDoor.H

set_option linter.unusedVariables false
set_option linter.unusedSimpArgs false
set_option maxHeartbeats 1000000
namespace Go.Proofs.YtnogfhhfklkbiaaDoor.H
open Go.RowKit Go.Proofs.YtnogfhhfklkbiaaDoorW.PrintWords Go.Proofs.YtnogfhhfklkbiaaDoorW.PrintLast Go.Proofs.YtnogfhhfklkbiaaDoorW.PrintMore
open Go.Proofs.YtnogfhhfklkbiaaDoor.Src
theorem lead_is (k : Nat) (b : Int) (hb : 0 ≤ b ∧ b ≤ 255) : ∃ lo hi, source_lead.f (k + 1) b = some (if b < 128 then 1 else if b < 194 ∨ 244 < b then 0 else if b < 224 then 2 else if b < 240 then 3 else 4, lo, hi) ∧
    (128 ≤ b → b ≤ 244 → 194 ≤ b → lo = (if b = 224 then 160 else if b = 240 then 144 else 128) ∧ hi = (if b = 237 then 159 else if b = 244 then 143 else 191)) := by
  unfold source_lead.f
  by_cases h1 : b < 128
  · rw [if_pos h1]
    exact ⟨0, 0, by simp [h1], fun h => by omega⟩
  · rw [if_neg h1]
    by_cases h2 : b < 194
    · rw [if_pos h2]
      exact ⟨0, 0, by simp [source_lead.j0, h1, h2], fun _ _ h => by omega⟩
    · rw [if_neg h2]
      by_cases h3 : 244 < b
      · exact ⟨0, 0, by simp [source_lead.j0, h1, h2, h3], fun _ h => by omega⟩
      · simp only [source_lead.j0, h1, h2, h3, decide_false, if_false, or_self, gt_iff_lt, Bool.false_eq_true]
        repeat' split
        all_goals first | omega | exact ⟨_, _, rfl, fun _ _ _ => ⟨by simp; try omega, by simp; try omega⟩⟩

theorem tail_is (b : Int) : source_tail.f b = some (decide (128 ≤ b ∧ b ≤ 191)) := by
  unfold source_tail.f
  by_cases h : b ≥ 128
  · rw [if_pos h]; congr 1; by_cases g : b ≤ 191 <;> simp <;> omega
  · rw [if_neg h]; congr 1; simp; omega

theorem width_is (k : Nat) (s : ByteArray) : source_width.f (k + 1) s = some (wd5 s.size (bt s 0) (bt s 1) (bt s 2) (bt s 3)) := by
  unfold source_width.f
  by_cases h0 : s.size = 0
  · rw [if_pos ((toList_size s).2 h0)]
    unfold wd5
    rw [if_pos (by omega)]
  · rw [if_neg (fun h => h0 ((toList_size s).1 h)), if_pos (by omega)]
    have hb := bt_range s 0
    obtain ⟨lo, hi, e, hl⟩ := lead_is k (bt s 0) hb
    rw [e]
    simp only [Option.bind_some, tail_is]
    generalize bt s 0 = b0 at *
    generalize bt s 1 = b1 at *
    generalize bt s 2 = b2 at *
    generalize bt s 3 = b3 at *
    generalize hn : (s.size : Int) = n at *
    have hn0 : 0 < n := by omega
    clear hn h0 e
    unfold wd5
    by_cases h1 : b0 < 128
    · simp only [h1, if_true]
      rw [if_neg (by omega), if_neg (by omega), if_neg (by omega), if_neg (by omega), if_neg (by omega)]
    · by_cases h2 : b0 < 194 ∨ 244 < b0
      · simp only [h1, h2, if_true, if_false]
        rw [if_neg (by omega), if_neg (by omega), if_neg (by omega), if_neg (by omega), if_neg (by omega)]
      · obtain ⟨rfl, rfl⟩ := hl (by omega) (by omega) (by omega)
        simp only [h1, h2, if_false]
        rw [if_neg (by omega : ¬ n ≤ 0)]
        by_cases h3 : b0 < 224
        · simp only [h3, if_true]
          rw [if_neg (by omega : ¬ b0 = 224), if_neg (by omega : ¬ b0 = 240), if_neg (by omega : ¬ b0 = 237), if_neg (by omega : ¬ b0 = 244)]
          by_cases g : 2 > n
          · rw [if_pos g, if_neg (by omega)]
          · simp only [if_neg g, show ((2 : Int) = 4) = False by decide, show ((2 : Int) = 3) = False by decide, eq_self_iff_true, if_true, if_false, if_pos (show 1 < n by omega)]
            repeat' split
            all_goals first | rfl | omega
        · by_cases h4 : b0 < 240
          · simp only [h3, h4, if_true, if_false]
            rw [if_neg (by omega : ¬ b0 = 240), if_neg (by omega : ¬ b0 = 244)]
            by_cases g : 3 > n
            · rw [if_pos g, if_neg (by omega)]
            · simp only [if_neg g, show ((3 : Int) = 4) = False by decide, eq_self_iff_true, if_true, if_false, if_pos (show 2 < n by omega), if_pos (show 1 < n by omega), decide_eq_true_eq]
              by_cases t2 : 128 ≤ b2 ∧ b2 ≤ 191
              · rw [if_pos t2]
                by_cases q : b0 = 224
                · have q' : ¬ b0 = 237 := by omega
                  simp only [q, q', if_true, if_false]
                  repeat' split
                  all_goals first | rfl | omega
                · by_cases q' : b0 = 237
                  · simp only [q, q', if_true, if_false]
                    repeat' split
                    all_goals first | rfl | omega
                  · simp only [q, q', if_false]
                    repeat' split
                    all_goals first | rfl | omega
              · rw [if_neg t2, if_neg (by omega)]
          · simp only [h3, h4, if_false]
            rw [if_neg (by omega : ¬ b0 = 224), if_neg (by omega : ¬ b0 = 237)]
            by_cases g : 4 > n
            · rw [if_pos g, if_neg (by omega)]
            · simp only [if_neg g, eq_self_iff_true, if_true, if_false, if_pos (show 3 < n by omega), if_pos (show 2 < n by omega), if_pos (show 1 < n by omega), decide_eq_true_eq]
              by_cases t3 : 128 ≤ b3 ∧ b3 ≤ 191
              · rw [if_pos t3]
                by_cases t2 : 128 ≤ b2 ∧ b2 ≤ 191
                · rw [if_pos t2]
                  by_cases q : b0 = 240
                  · have q' : ¬ b0 = 244 := by omega
                    simp only [q, q', if_true, if_false]
                    repeat' split
                    all_goals first | rfl | omega
                  · by_cases q' : b0 = 244
                    · simp only [q, q', if_true, if_false]
                      repeat' split
                      all_goals first | rfl | omega
                    · simp only [q, q', if_false]
                      repeat' split
                      all_goals first | rfl | omega
                · rw [if_neg t2, if_neg (by omega)]
              · rw [if_neg t3, if_neg (by omega)]

theorem wd5_out (n b0 b1 b2 b3 c1 c2 c3 : Int) (h1 : 1 < n → c1 = b1) (h2 : 2 < n → c2 = b2) (h3 : 3 < n → c3 = b3) : wd5 n b0 b1 b2 b3 = wd5 n b0 c1 c2 c3 := by
  by_cases g1 : 1 < n
  · have e1 := h1 g1
    by_cases g2 : 2 < n
    · have e2 := h2 g2
      by_cases g3 : 3 < n
      · rw [h3 g3, e1, e2]
      · subst e1; subst e2
        unfold wd5
        repeat' split
        all_goals omega
    · subst e1
      unfold wd5
      repeat' split
      all_goals omega
  · unfold wd5
    repeat' split
    all_goals omega

theorem width_at (k : Nat) (s : ByteArray) (i : Nat) (h : i < s.size) : source_width.f (k + 1) (s.extract i s.size) = some (wd s i : Int) := by
  have hz : (s.extract i s.size).size = s.size - i := by rw [ByteArray.size_extract]; omega
  rw [width_is, wd_int, hz, bt_extract s i s.size 0 (by omega) (by omega) (by omega), Int.add_zero, show (((s.size - i : Nat) : Int)) = (s.size : Int) - i from by omega]
  congr 1
  exact wd5_out _ _ _ _ _ _ _ _ (fun g => (bt_extract s i s.size 1 (by omega) (by omega) (by omega)).symm) (fun g => (bt_extract s i s.size 2 (by omega) (by omega) (by omega)).symm) (fun g => (bt_extract s i s.size 3 (by omega) (by omega) (by omega)).symm)

theorem wrap_small {x : Int} (h0 : 0 ≤ x) (h1 : x ≤ 562949953421312) : wrap64 x = x := by
  unfold wrap64
  omega

theorem Valid_loop (s : ByteArray) (hs : s.size ≤ 281474976710656) (i : Nat) : ∀ k, s.size - i + 2 ≤ k → source_Valid.l0 k s i = some (told (bad s i)) := by
  refine walk (s := s) (P := fun i => ∀ k, s.size - i + 2 ≤ k → source_Valid.l0 k s i = some (told (bad s i))) ?_ ?_ ?_ i
  · intro i h k hk
    obtain ⟨k, rfl⟩ : ∃ m, k = m + 1 := ⟨k - 1, by omega⟩
    simp only [source_Valid.l0]
    rw [if_neg (by omega), bad_end h]
    rfl
  · intro i h hw k hk
    obtain ⟨k, rfl⟩ : ∃ m, k = m + 2 := ⟨k - 2, by omega⟩
    simp only [source_Valid.l0]
    rw [if_pos (by omega), if_pos (by omega), if_pos (by omega), Int.toNat_natCast, width_at k s i h]
    simp only [Option.bind_some]
    rw [if_pos (by omega), bad_here h hw]
    rfl
  · intro i h hw ih k hk
    obtain ⟨k, rfl⟩ : ∃ m, k = m + 2 := ⟨k - 2, by omega⟩
    have k2 := wd_le s i h
    simp only [source_Valid.l0]
    rw [if_pos (by omega), if_pos (by omega), if_pos (by omega), Int.toNat_natCast, width_at k s i h]
    simp only [Option.bind_some]
    rw [if_neg (by omega), wrap_small (by omega) (by omega), bad_on h hw, show ((i : Int) + (wd s i : Nat)) = ((i + wd s i : Nat) : Int) from by omega]
    exact ih (k + 1) (by omega)

theorem Valid_is (s : ByteArray) (hs : s.size ≤ 281474976710656) (k : Nat) (hk : s.size + 2 ≤ k) : source_Valid.f k s = some (told (bad s 0)) := by
  unfold source_Valid.f
  exact Valid_loop s hs 0 k (by omega)

theorem loop_is (s : ByteArray) (hs : s.size ≤ 281474976710656) (i : Nat) (n : Int) (hn0 : 2 ≤ n) (hn : n ≤ 4) (h : (i : Int) + n ≤ s.size) (k : Nat) :
    trammelref1_Width.l0 (k + 4) s i n 2 = some (if (3 ≤ n → 128 ≤ bt s (i + 2) ∧ bt s (i + 2) ≤ 191) ∧ (4 ≤ n → 128 ≤ bt s (i + 3) ∧ bt s (i + 3) ≤ 191) then n else 0) := by
  by_cases g3 : 3 ≤ n
  · simp only [trammelref1_Width.l0]
    rw [if_pos (by omega), wrap_small (by omega) (by omega), if_pos (by omega), if_pos (by omega)]
    by_cases b2 : bt s (i + 2) < 128
    · rw [if_pos b2, if_neg (by omega)]
    · rw [if_neg b2]
      by_cases c2 : bt s (i + 2) > 191
      · rw [if_pos c2, if_neg (by omega)]
      · rw [if_neg c2, wrap_small (by omega) (by omega)]
        by_cases g4 : 4 ≤ n
        · rw [if_pos (by omega), show ((2 : Int) + 1) = 3 from rfl, wrap_small (by omega) (by omega), if_pos (by omega), if_pos (by omega)]
          by_cases b3 : bt s (i + 3) < 128
          · rw [if_pos b3, if_neg (by omega)]
          · rw [if_neg b3]
            by_cases c3 : bt s (i + 3) > 191
            · rw [if_pos c3, if_neg (by omega)]
            · rw [if_neg c3, wrap_small (by omega) (by omega), if_neg (by omega), if_pos (by omega)]
        · rw [if_neg (by omega), if_pos (by omega)]
  · simp only [trammelref1_Width.l0]
    rw [if_neg (by omega), if_pos (by omega)]

theorem j4_is (s : ByteArray) (hs : s.size ≤ 281474976710656) (i : Nat) (n lo hi : Int) (hn0 : 2 ≤ n) (hn : n ≤ 4) (h : i < s.size) (k : Nat) :
    trammelref1_Width.j4 (k + 6) s i n lo hi = some (if (i : Int) + n ≤ s.size ∧ lo ≤ bt s (i + 1) ∧ bt s (i + 1) ≤ hi ∧ (3 ≤ n → 128 ≤ bt s (i + 2) ∧ bt s (i + 2) ≤ 191) ∧ (4 ≤ n → 128 ≤ bt s (i + 3) ∧ bt s (i + 3) ≤ 191) then n else 0) := by
  simp only [trammelref1_Width.j4]
  rw [wrap_small (x := (i : Int) + n) (by omega) (by omega)]
  by_cases g : (i : Int) + n > s.size
  · rw [if_pos g, if_neg (by omega)]
    simp [trammelref1_Width.j5]
  · rw [if_neg g, wrap_small (by omega) (by omega), if_pos (by omega), if_pos (by omega)]
    by_cases b1 : bt s (i + 1) < lo
    · rw [if_pos b1, if_neg (by omega)]
      simp [trammelref1_Width.j5]
    · rw [if_neg b1]
      simp only [trammelref1_Width.j5]
      by_cases c1 : bt s (i + 1) > hi
      · rw [if_pos (by simpa using c1), if_neg (by omega)]
      · rw [if_neg (by simpa using c1), loop_is s hs i n hn0 hn (by omega) k]
        congr 1
        by_cases q : (3 ≤ n → 128 ≤ bt s (i + 2) ∧ bt s (i + 2) ≤ 191) ∧ (4 ≤ n → 128 ≤ bt s (i + 3) ∧ bt s (i + 3) ≤ 191)
        · rw [if_pos q, if_pos ⟨by omega, by omega, by omega, q⟩]
        · rw [if_neg q, if_neg (fun r => q r.2.2.2)]

theorem ref_at (s : ByteArray) (hs : s.size ≤ 281474976710656) (i : Nat) (h : i < s.size) (k : Nat) : trammelref1_Width.f (k + 10) s i = some (wd s i : Int) := by
  have hb := bt_range s i
  rw [wd_int]
  unfold trammelref1_Width.f
  rw [if_neg (by omega)]
  simp only [trammelref1_Width.j0]
  rw [if_neg (by simpa using h), if_pos (by omega), if_pos (by omega)]
  by_cases h1 : bt s i < 128
  · rw [if_pos h1]
    unfold wd5
    rw [if_neg (by omega), if_pos h1]
  · rw [if_neg h1]
    by_cases h2 : bt s i ≥ 194
    · rw [if_pos h2]
      simp only [trammelref1_Width.j1]
      by_cases h3 : bt s i ≤ 223
      · rw [if_pos (by simpa using h3), j4_is s hs i 2 128 191 (by omega) (by omega) h (k + 2)]
        unfold wd5
        repeat' split
        all_goals first | rfl | omega
      · rw [if_neg (by simpa using h3), if_pos (by omega)]
        simp only [trammelref1_Width.j2]
        by_cases h4 : bt s i ≤ 239
        · rw [if_pos (by simpa using h4)]
          by_cases q : bt s i = 224
          · rw [if_pos q, if_neg (by omega), j4_is s hs i 3 160 191 (by omega) (by omega) h (k + 1)]
            unfold wd5
            repeat' split
            all_goals first | rfl | omega
          · rw [if_neg q]
            by_cases q' : bt s i = 237
            · rw [if_pos q', j4_is s hs i 3 128 159 (by omega) (by omega) h (k + 1)]
              unfold wd5
              repeat' split
              all_goals first | rfl | omega
            · rw [if_neg q', j4_is s hs i 3 128 191 (by omega) (by omega) h (k + 1)]
              unfold wd5
              repeat' split
              all_goals first | rfl | omega
        · rw [if_neg (by simpa using h4), if_pos (by omega)]
          simp only [trammelref1_Width.j3]
          by_cases h5 : bt s i ≤ 244
          · rw [if_pos (by simpa using h5)]
            by_cases q : bt s i = 240
            · rw [if_pos q, if_neg (by omega), j4_is s hs i 4 144 191 (by omega) (by omega) h k]
              unfold wd5
              repeat' split
              all_goals first | rfl | omega
            · rw [if_neg q]
              by_cases q' : bt s i = 244
              · rw [if_pos q', j4_is s hs i 4 128 143 (by omega) (by omega) h k]
                unfold wd5
                repeat' split
                all_goals first | rfl | omega
              · rw [if_neg q', j4_is s hs i 4 128 191 (by omega) (by omega) h k]
                unfold wd5
                repeat' split
                all_goals first | rfl | omega
          · rw [if_neg (by simpa using h5)]
            unfold wd5
            rw [if_neg (by omega), if_neg (by omega), if_pos (by omega)]
    · rw [if_neg h2]
      have n1 : ¬ bt s i ≥ 224 := by omega
      have n2 : ¬ bt s i ≥ 240 := by omega
      simp only [trammelref1_Width.j1, trammelref1_Width.j2, trammelref1_Width.j3, n1, n2, if_false, Bool.false_eq_true]
      unfold wd5
      rw [if_neg (by omega), if_neg (by omega), if_pos (by omega)]

theorem ref_is (s : ByteArray) (hs : s.size ≤ 281474976710656) (at_ : Int) (k : Nat) : trammelref1_Width.f (k + 10) s at_ = some (if 0 ≤ at_ ∧ at_ < s.size then (wd s at_.toNat : Int) else 0) := by
  by_cases h : 0 ≤ at_ ∧ at_ < s.size
  · obtain ⟨i, rfl⟩ := Int.eq_ofNat_of_zero_le h.1
    rw [if_pos h, Int.toNat_natCast]
    exact ref_at s hs i (by omega) k
  · rw [if_neg h]
    unfold trammelref1_Width.f
    by_cases h0 : at_ < 0
    · rw [if_pos h0]
      rfl
    · rw [if_neg h0]
      have h1 : at_ ≥ (s.size : Int) := by omega
      simp [trammelref1_Width.j0, h1]

theorem ref_Valid (s : ByteArray) (hs : s.size ≤ 281474976710656) (i : Nat) : ∀ k, s.size - i + 11 ≤ k → trammelref1_Valid.l0 k s i = some (told (bad s i)) := by
  refine walk (s := s) (P := fun i => ∀ k, s.size - i + 11 ≤ k → trammelref1_Valid.l0 k s i = some (told (bad s i))) ?_ ?_ ?_ i
  · intro i h k hk
    obtain ⟨k, rfl⟩ : ∃ m, k = m + 1 := ⟨k - 1, by omega⟩
    simp only [trammelref1_Valid.l0]
    rw [if_neg (by omega), bad_end h]
    rfl
  · intro i h hw k hk
    obtain ⟨k, rfl⟩ : ∃ m, k = m + 11 := ⟨k - 11, by omega⟩
    simp only [trammelref1_Valid.l0]
    rw [if_pos (by omega), ref_at s hs i h k]
    simp only [Option.bind_some]
    rw [if_pos (by omega), bad_here h hw]
    rfl
  · intro i h hw ih k hk
    obtain ⟨k, rfl⟩ : ∃ m, k = m + 11 := ⟨k - 11, by omega⟩
    have k2 := wd_le s i h
    simp only [trammelref1_Valid.l0]
    rw [if_pos (by omega), ref_at s hs i h k]
    simp only [Option.bind_some]
    rw [if_neg (by omega), wrap_small (by omega) (by omega), bad_on h hw, show ((i : Int) + (wd s i : Nat)) = ((i + wd s i : Nat) : Int) from by omega]
    exact ih (k + 10) (by omega)

end Go.Proofs.YtnogfhhfklkbiaaDoor.H

set_option linter.unusedVariables false
set_option linter.unusedSimpArgs false
set_option maxHeartbeats 1000000
namespace Go.Proofs.YtnogfhhfklkbiaaDoor.H
open Go.RowKit Go.Proofs.YtnogfhhfklkbiaaDoorW.PrintWords Go.Proofs.YtnogfhhfklkbiaaDoorW.PrintLast Go.Proofs.YtnogfhhfklkbiaaDoorW.PrintMore

def ba (l : List UInt8) : ByteArray := ⟨l.toArray⟩
theorem ba_list (l : List UInt8) : (ba l).data.toList = l := rfl
theorem ba_size (l : List UInt8) : (ba l).size = l.length := by rw [← list_size, ba_list]
theorem ba_of {s : ByteArray} {l : List UInt8} (h : s.data.toList = l) : s = ba l := bytes_ext h
def isBlank (c : UInt8) : Bool := c == 32 || (c == 9 || c == 10)
def signsB : ByteArray := ⟨#[40, 41, 61, 43, 45, 42, 47, 60, 59, 58]⟩
def isSign (c : UInt8) : Bool := c == 40 || (c == 41 || (c == 61 || (c == 43 || (c == 45 || (c == 42 || (c == 47 || (c == 60 || (c == 59 || c == 58))))))))
theorem mem_signs (c : UInt8) : decide (c ∈ signsB.data.toList) = isSign c := byte_all (P := fun c => decide (c ∈ signsB.data.toList) = isSign c) (by decide +kernel) c
theorem mem_blanks (c : UInt8) : decide (c ∈ (⟨#[32, 9, 10]⟩ : ByteArray).data.toList) = isBlank c := byte_all (P := fun c => decide (c ∈ (⟨#[32, 9, 10]⟩ : ByteArray).data.toList) = isBlank c) (by decide +kernel) c
/-- A number in decimal. -/
def numV (l : List UInt8) : Nat := l.foldl (fun x c => 10 * x + (c.toNat - 48)) 0
theorem foldl_ge (b : List UInt8) : ∀ x : Nat, x ≤ b.foldl (fun x c => 10 * x + (c.toNat - 48)) x := by
  induction b with
  | nil => exact fun x => Nat.le_refl _
  | cons c b ih => exact fun x => Nat.le_trans (show x ≤ 10 * x + (c.toNat - 48) by omega) (ih _)
theorem numV_snoc (l : List UInt8) (c : UInt8) : numV (l ++ [c]) = 10 * numV l + (c.toNat - 48) := by
  unfold numV
  rw [List.foldl_append]
  rfl
theorem numV_take (l : List UInt8) (i : Nat) : numV (l.take i) ≤ numV l := by
  have h : numV l = numV (l.take i ++ l.drop i) := by rw [List.take_append_drop]
  rw [h]
  unfold numV
  rw [List.foldl_append]
  exact foldl_ge _ _
def numOk (l : List UInt8) : Bool := l.all isDig && ((decide (l.length ≤ 1) || l.head? != some 48) && decide (numV l ≤ 1073741823))
theorem dig_of {c : UInt8} (h : isDig c = true) : 48 ≤ c.toNat ∧ c.toNat ≤ 57 := by
  simpa [isDig] using h
theorem num_ten (n : Nat) (hn : n ≤ 1073741823) : wrap64 (10 * (n : Int)) = 10 * (n : Int) := by unfold wrap64; omega
theorem num_step (n d : Nat) (hn : n ≤ 1073741823) (hd : d ≤ 9) : wrap64 (10 * (n : Int) + (d : Int)) = ((10 * n + d : Nat) : Int) := by unfold wrap64; omega
theorem byte_dig (n : Nat) (h1 : 48 ≤ n) (h2 : n ≤ 57) : ((n : Int) - 48) % 256 = ((n - 48 : Nat) : Int) := by omega
theorem number_loop (s : ByteArray) (hd : s.data.toList.all isDig = true) (hs : s.size ≤ 1152921504606846976) : ∀ (d i k : Nat), s.size - i = d → i ≤ s.size → d < k → numV (s.data.toList.take i) ≤ 1073741823 →
    lex_number.l0 k s (numV (s.data.toList.take i) : Int) (s.size : Int) (i : Int) = some (if numV s.data.toList ≤ 1073741823 then ((numV s.data.toList : Int), true) else (0, false)) := by
  intro d
  induction d with
  | zero =>
    intro i k hdd hi hk hn
    obtain ⟨k, rfl⟩ : ∃ m, k = m + 1 := ⟨k - 1, by omega⟩
    have : i = s.size := by omega
    subst this
    have e : s.data.toList.take s.size = s.data.toList := List.take_of_length_le (by rw [list_size]; exact Nat.le_refl _)
    rw [e] at hn ⊢
    simp only [lex_number.l0]
    rw [if_neg (by omega), if_pos hn]
  | succ d ih =>
    intro i k hdd hi hk hn
    obtain ⟨k, rfl⟩ : ∃ m, k = m + 1 := ⟨k - 1, by omega⟩
    have hlt : i < s.data.toList.length := by rw [list_size]; omega
    have hg : s.data.toList[i]? = some s.data.toList[i] := List.getElem?_eq_getElem hlt
    have hc := dig_of (List.all_eq_true.1 hd _ (List.getElem_mem hlt))
    have e1 : numV (s.data.toList.take (i + 1)) = 10 * numV (s.data.toList.take i) + (s.data.toList[i].toNat - 48) := by
      rw [List.take_succ_eq_append_getElem hlt, numV_snoc]
    have hle := numV_take s.data.toList (i + 1)
    simp only [lex_number.l0]
    rw [if_pos (by omega), if_pos (by omega), if_pos (by omega), bt_list s i _ hg]
    rw [num_ten _ hn, byte_dig _ hc.1 hc.2, num_step _ _ hn (by omega), ← e1]
    by_cases hb : numV (s.data.toList.take (i + 1)) ≤ 1073741823
    · rw [if_neg (by omega), wrapS (by omega) (by omega), show ((i : Int) + 1) = ((i + 1 : Nat) : Int) from by omega]
      exact ih (i + 1) k (by omega) (by omega) (by omega) hb
    · rw [if_pos (by omega), if_neg (by omega)]
theorem number_is (s : ByteArray) (hs : s.size ≤ 1152921504606846976) (k : Nat) (hk : s.size + 3 ≤ k) : lex_number.f k s = some (if numOk s.data.toList = true then ((numV s.data.toList : Int), true) else (0, false)) := by
  obtain ⟨k, rfl⟩ : ∃ m, k = m + 1 := ⟨k - 1, by omega⟩
  have hl := list_size s
  unfold lex_number.f
  rw [show (⟨#[48, 49, 50, 51, 52, 53, 54, 55, 56, 57]⟩ : ByteArray) = digitsB from rfl, run_is s digitsB isDig mem_digits hs (k + 1) (by omega), Option.bind_some, toList_data, toList_data, extract_list]
  by_cases h3 : s.data.toList.all isDig = true
  · have ht : s.data.toList.take (runN isDig s.data.toList) = s.data.toList := by rw [runN, (tw_all isDig _).1 h3, List.take_length]
    rw [if_pos ht]
    have lp := number_loop s h3 hs s.size 0 k rfl (Nat.zero_le _) (by omega) (by simp [numV])
    rw [show ((numV (s.data.toList.take 0) : Nat) : Int) = 0 from rfl, show ((0 : Nat) : Int) = 0 from rfl] at lp
    by_cases h1 : (s.size : Int) > 1
    · rw [if_pos h1, if_pos (by omega)]
      obtain ⟨c, r, hcr⟩ := List.exists_cons_of_ne_nil (show s.data.toList ≠ [] from fun h => by rw [h] at hl; simp at hl; omega)
      have hb : bt s 0 = (c.toNat : Int) := bt_list s 0 c (by rw [hcr]; rfl)
      have hlen : ¬ s.data.toList.length ≤ 1 := by omega
      rw [hb]
      by_cases hc : c = 48
      · subst hc
        simp only [lex_number.j0]
        have : numOk s.data.toList = false := by
          have e1 : decide (s.data.toList.length ≤ 1) = false := decide_eq_false hlen
          have e2 : (s.data.toList.head? != some 48) = false := by rw [hcr]; rfl
          unfold numOk
          rw [e1, e2]
          simp
        rw [this]
        rfl
      · have hcn : ¬ ((c.toNat : Int)) = 48 := fun h => hc (by
          have : c.toNat = 48 := by omega
          exact UInt8.toNat_inj.1 (by rw [this]; rfl))
        have hbf : ((c.toNat : Int) == 48) = false := beq_eq_false_iff_ne.2 hcn
        rw [hbf]
        simp only [lex_number.j0, Bool.false_eq_true, if_false]
        rw [lp]
        have : numOk s.data.toList = decide (numV s.data.toList ≤ 1073741823) := by
          unfold numOk
          rw [h3, hcr]
          simp [hc]
        rw [this]
        by_cases hv : numV s.data.toList ≤ 1073741823 <;> simp [hv]
    · rw [if_neg h1]
      simp only [lex_number.j0, Bool.false_eq_true, if_false]
      rw [lp]
      have : numOk s.data.toList = decide (numV s.data.toList ≤ 1073741823) := by
        unfold numOk
        rw [h3]
        simp [show s.size ≤ 1 by omega, hl]
      rw [this]
      by_cases hv : numV s.data.toList ≤ 1073741823 <;> simp [hv]
  · have ht : ¬ s.data.toList.take (runN isDig s.data.toList) = s.data.toList := by
      intro he
      apply h3
      have hle : runN isDig s.data.toList ≤ s.data.toList.length := (List.takeWhile_prefix isDig).length_le
      have hlen := congrArg List.length he
      rw [List.length_take] at hlen
      have hfull : (s.data.toList.takeWhile isDig).length = s.data.toList.length := by unfold runN at hlen hle; omega
      exact (tw_all isDig _).2 ((List.takeWhile_prefix isDig).eq_of_length hfull)
    rw [if_neg ht]
    simp only [lex_number.j0]
    have : numOk s.data.toList = false := by simp only [numOk, h3, Bool.false_and]
    rw [this]
    rfl
theorem prefix_is (s : ByteArray) (a b : UInt8) : strings_HasPrefix.f s ⟨#[a, b]⟩ = some (s.data.toList.take 2 == [a, b]) := by
  unfold strings_HasPrefix.f stringslite_HasPrefix.f
  have hl := list_size s
  have h2 : ((⟨#[a, b]⟩ : ByteArray).size : Int) = 2 := rfl
  rw [h2]
  by_cases h : (s.size : Int) ≥ 2
  · rw [if_pos h, if_pos (by decide), if_pos (by omega), Option.bind_some, toList_data, toList_data, extract_list]
    rfl
  · rw [if_neg h, Option.bind_some]
    congr 1
    symm
    rw [beq_eq_false_iff_ne]
    intro he
    have := congrArg List.length he
    rw [List.length_take] at this
    simp at this
    omega
/-- A sign of two bytes. -/
def twoS (l : List UInt8) : Bool := l.take 2 == [45, 62] || l.take 2 == [61, 61]
abbrev Tk := Int × ByteArray × Int × Int × Int × Option Int
def noTok (e : Int) : Tk := (0, (⟨#[]⟩ : ByteArray), 0, 0, 0, some e)
def sgnL (l : List UInt8) : Tk := match l with
  | [] => noTok 201
  | c :: r => if isSign c = true then (if twoS l = true then (3, ba (l.take 2), 0, 0, 2, none) else (3, ba (l.take 1), 0, 0, 1, none)) else noTok 201
/-- The token that a text begins with. -/
def wordL (w l : List UInt8) : Tk := match w with
  | [] => sgnL l
  | c :: r => if c = 95 then sgnL l else if isDig c = true then (if numOk (c :: r) = true then (1, (⟨#[]⟩ : ByteArray), (numV (c :: r) : Int), 0, ((c :: r).length : Int), none) else noTok 202)
    else if kw (c :: r) = true then (2, ba (c :: r), 0, 0, ((c :: r).length : Int), none) else if nm (c :: r) = true then (0, ba (c :: r), 0, 0, ((c :: r).length : Int), none) else noTok 201
theorem wordL_cons (c : UInt8) (r l : List UInt8) : wordL (c :: r) l = if c = 95 then sgnL l else if isDig c = true then (if numOk (c :: r) = true then (1, (⟨#[]⟩ : ByteArray), (numV (c :: r) : Int), 0, ((c :: r).length : Int), none) else noTok 202)
    else if kw (c :: r) = true then (2, ba (c :: r), 0, 0, ((c :: r).length : Int), none) else if nm (c :: r) = true then (0, ba (c :: r), 0, 0, ((c :: r).length : Int), none) else noTok 201 := rfl
def tokL (l : List UInt8) : Tk := wordL (l.takeWhile isMore) l
theorem run_ba (s : ByteArray) (hs : s.size ≤ 1152921504606846976) (k : Nat) (hk : s.size < k) : lex_run.f k s moreB = some (ba (s.data.toList.takeWhile isMore)) := by
  rw [run_is s moreB isMore mem_more hs k hk]
  congr 1
  apply ba_of
  rw [extract_list, runN, List.prefix_iff_eq_take.1 (List.takeWhile_prefix isMore) |>.symm]
theorem sgn_is (s : ByteArray) (h0 : 0 < s.size) (k : Nat) : (if True then ((strings_HasPrefix.f s (⟨#[45, 62]⟩ : ByteArray)).bind fun t => (if t = true then (lex_token.j1 (k + 1) s 1 true) else ((strings_HasPrefix.f s (⟨#[61, 61]⟩ : ByteArray)).bind fun u => (lex_token.j1 (k + 1) s 1 u)))) else none) = some (sgnL s.data.toList) := by
  have hl := list_size s
  obtain ⟨c, r, hcr⟩ := List.exists_cons_of_ne_nil (show s.data.toList ≠ [] from fun h => by rw [h] at hl; simp at hl; omega)
  have hb : bt s 0 = (c.toNat : Int) := bt_list s 0 c (by rw [hcr]; rfl)
  have e2 : ∀ n : Nat, s.extract 0 n = ba (s.data.toList.take n) := fun n => ba_of (extract_list s n)
  have j1t : twoS s.data.toList = true → lex_token.j1 (k + 1) s 1 true = some (sgnL s.data.toList) := by
    intro ht
    simp only [lex_token.j1]
    have h2 : 2 ≤ s.size := by
      have h3 : (s.data.toList.take 2).length = 2 := by
        unfold twoS at ht
        rw [Bool.or_eq_true, beq_iff_eq, beq_iff_eq] at ht
        rcases ht with ht | ht <;> rw [ht] <;> rfl
      rw [List.length_take] at h3
      omega
    rw [if_pos trivial, if_pos (by omega), hb, show (⟨#[40, 41, 61, 43, 45, 42, 47, 60, 59, 58]⟩ : ByteArray) = signsB from rfl, of_is, mem_signs, Option.bind_some]
    have q : (2 : Int) ≤ (s.size : Int) := by omega
    simp only [q, if_true, show ((0 : Int) ≤ 2) from by decide]
    unfold sgnL
    rw [hcr] at ht
    rw [e2 2, hcr]
    simp only [ht, if_true]
    cases isSign c <;> rfl
  have j1f : twoS s.data.toList = false → lex_token.j1 (k + 1) s 1 false = some (sgnL s.data.toList) := by
    intro ht
    simp only [lex_token.j1, Bool.false_eq_true, if_false]
    rw [if_pos (by omega), hb, show (⟨#[40, 41, 61, 43, 45, 42, 47, 60, 59, 58]⟩ : ByteArray) = signsB from rfl, of_is, mem_signs, Option.bind_some]
    have q : (1 : Int) ≤ (s.size : Int) := by omega
    simp only [q, if_true, show ((0 : Int) ≤ 1) from by decide]
    unfold sgnL
    rw [hcr] at ht
    rw [show (1 : Int).toNat = 1 from rfl, e2 1, hcr]
    simp only [ht, Bool.false_eq_true, if_false]
    cases isSign c <;> rfl
  rw [if_pos trivial, prefix_is, Option.bind_some]
  by_cases ha : (s.data.toList.take 2 == [45, 62]) = true
  · rw [if_pos ha]
    exact j1t (by unfold twoS; rw [ha, Bool.true_or])
  · rw [if_neg ha, prefix_is, Option.bind_some]
    have ha' : (s.data.toList.take 2 == [45, 62]) = false := by simpa using ha
    cases hbq : (s.data.toList.take 2 == [61, 61])
    · exact j1f (by unfold twoS; rw [ha', hbq]; rfl)
    · exact j1t (by unfold twoS; rw [ha', hbq]; rfl)
theorem tw_le (p : UInt8 → Bool) (l : List UInt8) : (l.takeWhile p).length ≤ l.length := (List.takeWhile_prefix p).length_le
theorem token_is (s : ByteArray) (h0 : 0 < s.size) (hs : s.size ≤ 1152921504606846976) (k : Nat) (hk : s.size + 60 ≤ k) : lex_token.f k s = some (tokL s.data.toList) := by
  obtain ⟨k, rfl⟩ : ∃ m, k = m + 2 := ⟨k - 2, by omega⟩
  have hl := list_size s
  unfold lex_token.f tokL
  rw [show (⟨#[97, 98, 99, 100, 101, 102, 103, 104, 105, 106, 107, 108, 109, 110, 111, 112, 113, 114, 115, 116, 117, 118, 119, 120, 121, 122, 48, 49, 50, 51, 52, 53, 54, 55, 56, 57, 95]⟩ : ByteArray) = moreB from rfl, run_ba s hs _ (by omega), Option.bind_some, toList_data, ba_list]
  have hwl := tw_le isMore s.data.toList
  generalize s.data.toList.takeWhile isMore = w at *
  have hsg := sgn_is s h0 k
  rw [if_pos trivial] at hsg
  cases w with
  | nil =>
    rw [if_pos rfl]
    simp only [lex_token.j0]
    rw [if_pos trivial]
    exact hsg
  | cons c r =>
    have hz : (ba (c :: r)).size = (c :: r).length := ba_size _
    have hzz : (ba (c :: r)).size ≤ s.size := by rw [hz]; omega
    have hz0 : 0 < (ba (c :: r)).size := by rw [hz]; exact Nat.succ_pos _
    have hb : bt (ba (c :: r)) 0 = (c.toNat : Int) := bt_list (ba (c :: r)) 0 c rfl
    rw [if_neg (by simp), if_pos (by omega), hb]
    rw [wordL_cons]
    by_cases h95 : c = 95
    · subst h95
      rw [if_pos rfl]
      simp only [lex_token.j0]
      rw [if_pos (by decide)]
      exact hsg
    · rw [if_neg h95]
      have hbf : ((c.toNat : Int) == 95) = false := beq_eq_false_iff_ne.2 (fun h => h95 (by
        have : c.toNat = 95 := by omega
        exact UInt8.toNat_inj.1 (by rw [this]; rfl)))
      rw [hbf]
      simp only [lex_token.j0, Bool.false_eq_true, if_false]
      rw [if_pos (by omega), hb, show (⟨#[48, 49, 50, 51, 52, 53, 54, 55, 56, 57]⟩ : ByteArray) = digitsB from rfl, of_is, mem_digits, Option.bind_some]
      by_cases hd : isDig c = true
      · rw [if_pos hd, if_pos hd, number_is (ba (c :: r)) (by omega) (k + 1) (by omega), Option.bind_some, ba_list, hz]
        cases numOk (c :: r) <;> rfl
      · rw [if_neg hd, if_neg hd, keyword_is (ba (c :: r)) (k + 1) (by omega), Option.bind_some, ba_list]
        by_cases hk2 : kw (c :: r) = true
        · rw [if_pos hk2, if_pos hk2, hz]
        · rw [if_neg hk2, if_neg hk2, nameMay_is (ba (c :: r)) (k + 1) (by omega), Option.bind_some, ba_list, hz]
          cases nm (c :: r) <;> rfl
theorem tokL_len {l : List UInt8} (h0 : l ≠ []) (h : (tokL l).2.2.2.2.2 = none) : ∃ n : Nat, (tokL l).2.2.2.2.1 = (n : Int) ∧ 1 ≤ n ∧ n ≤ l.length := by
  have sg : (sgnL l).2.2.2.2.2 = none → ∃ n : Nat, (sgnL l).2.2.2.2.1 = (n : Int) ∧ 1 ≤ n ∧ n ≤ l.length := by
    intro h
    cases l with
    | nil => exact (h0 rfl).elim
    | cons c r =>
      unfold sgnL at h ⊢
      by_cases hs : isSign c = true
      · simp only [hs, if_true] at h ⊢
        by_cases ht : twoS (c :: r) = true
        · simp only [ht, if_true]
          refine ⟨2, rfl, by decide, ?_⟩
          unfold twoS at ht
          rw [Bool.or_eq_true, beq_iff_eq, beq_iff_eq] at ht
          have h3 : ((c :: r).take 2).length = 2 := by rcases ht with ht | ht <;> rw [ht] <;> rfl
          rw [List.length_take] at h3
          omega
        · simp only [ht, Bool.false_eq_true, if_false]
          exact ⟨1, rfl, by decide, by simp⟩
      · simp only [hs, Bool.false_eq_true, if_false] at h
        simp [noTok] at h
  have hwl := tw_le isMore l
  unfold tokL at h ⊢
  generalize l.takeWhile isMore = w at *
  cases w with
  | nil => exact sg h
  | cons c r =>
    rw [wordL_cons] at h ⊢
    have fin : ∃ n : Nat, ((c :: r).length : Int) = (n : Int) ∧ 1 ≤ n ∧ n ≤ l.length := ⟨(c :: r).length, rfl, by simp, hwl⟩
    by_cases h95 : c = 95
    · simp only [h95, if_true] at h ⊢
      exact sg h
    · simp only [h95, if_false] at h ⊢
      by_cases hd : isDig c = true
      · simp only [hd, if_true] at h ⊢
        by_cases hn : numOk (c :: r) = true
        · simp only [hn, if_true]
          exact fin
        · simp only [hn, Bool.false_eq_true, if_false] at h
          simp [noTok] at h
      · simp only [hd, Bool.false_eq_true, if_false] at h ⊢
        by_cases hk : kw (c :: r) = true
        · simp only [hk, if_true]
          exact fin
        · simp only [hk, Bool.false_eq_true, if_false] at h ⊢
          by_cases hm : nm (c :: r) = true
          · simp only [hm, if_true]
            exact fin
          · simp only [hm, Bool.false_eq_true, if_false] at h
            simp [noTok] at h
end Go.Proofs.YtnogfhhfklkbiaaDoor.H

set_option linter.unusedVariables false
set_option linter.unusedSimpArgs false
set_option maxHeartbeats 1000000
namespace Go.Proofs.YtnogfhhfklkbiaaDoor.H
open Go.RowKit Go.Proofs.YtnogfhhfklkbiaaDoorW.PrintWords Go.Proofs.YtnogfhhfklkbiaaDoorW.PrintLast Go.Proofs.YtnogfhhfklkbiaaDoorW.PrintMore
open Go.Proofs.YtnogfhhfklkbiaaDoor.Src

def cutN (c : UInt8) (l : List UInt8) : Nat := (l.takeWhile (· != c)).length
theorem cutN_le (c : UInt8) (l : List UInt8) : cutN c l ≤ l.length := tw_le _ l
theorem indexByte_take (c : UInt8) : ∀ l : List UInt8, (0 ≤ Lib.indexByte l c → Lib.indexByte l c = (cutN c l : Int) ∧ cutN c l < l.length) ∧ (¬ 0 ≤ Lib.indexByte l c → cutN c l = l.length)
  | [] => ⟨fun h => by simp [Lib.indexByte] at h, fun _ => rfl⟩
  | b :: l => by
    have ih := indexByte_take c l
    have hge := Lib.indexByte_ge l c
    by_cases h : b = c
    · subst h
      simp [Lib.indexByte, cutN]
    · have hb : (b == c) = false := by simpa using h
      have hc : cutN c (b :: l) = cutN c l + 1 := by simp [cutN, List.takeWhile_cons, h]
      rw [hc]
      unfold Lib.indexByte
      simp only [hb, Bool.false_eq_true, if_false]
      by_cases h1 : Lib.indexByte l c = -1
      · have := ih.2 (by omega)
        simp [h1, this]
      · have := ih.1 (by omega)
        have h2 : (Lib.indexByte l c == -1) = false := by simpa using h1
        simp only [h2, Bool.false_eq_true, if_false, List.length_cons]
        omega
theorem cut_is (s : ByteArray) (hs : s.size ≤ 1152921504606846976) : ∃ a b f, strings_Cut.f s ⟨#[10]⟩ = some (a, b, f) ∧ a.size = cutN 10 s.data.toList := by
  unfold strings_Cut.f stringslite_Cut.f
  have hi : stringslite_Index.f s ⟨#[10]⟩ = some (Lib.indexByte s.data.toList 10) := rfl
  have h := indexByte_take 10 s.data.toList
  have hl := list_size s
  have h1 : ((⟨#[10]⟩ : ByteArray).size : Int) = 1 := rfl
  rw [hi, Option.bind_some, h1]
  generalize Lib.indexByte s.data.toList 10 = i at *
  by_cases h0 : 0 ≤ i
  · obtain ⟨rfl, h2⟩ := h.1 h0
    rw [if_pos h0, if_pos h0, if_pos (by omega), wrapS (by omega) (by omega), if_pos (by omega), if_pos (by omega)]
    refine ⟨_, _, _, rfl, ?_⟩
    rw [ByteArray.size_extract, Int.toNat_natCast]
    omega
  · rw [if_neg h0]
    refine ⟨_, _, _, rfl, ?_⟩
    show s.size = _
    rw [h.2 h0, hl]
abbrev Lexed := List S60 × Option (Int × Int)
def consT (p : Nat) (t : Tk) (rest : Lexed) : Lexed :=
  match t.2.2.2.2.2 with
  | some e => ([], some ((p : Int), e))
  | none => match rest.2 with
    | some e => ([], some e)
    | none => (⟨t.1, t.2.1, t.2.2.1, (p : Int)⟩ :: rest.1, none)
/-- The tokens from a place on. -/
def lexL : Nat → Nat → List UInt8 → Lexed
  | 0, _, _ => ([], none)
  | _ + 1, _, [] => ([], none)
  | f + 1, p, c :: r =>
    if isBlank c = true then lexL f (p + 1) r
    else if c = 35 then lexL f (p + cutN 10 (c :: r)) ((c :: r).drop (cutN 10 (c :: r)))
    else consT p (tokL (c :: r)) (lexL f (p + (tokL (c :: r)).2.2.2.2.1.toNat) ((c :: r).drop (tokL (c :: r)).2.2.2.2.1.toNat))
def appT (ts : List S60) (r : Lexed) : Lexed := match r.2 with
  | some e => ([], some e)
  | none => (ts ++ r.1, none)
theorem drop_list (s : ByteArray) (p : Nat) (h : p ≤ s.size) : (s.extract p s.size).data.toList = s.data.toList.drop p := by
  have := list_size s
  simp
  rw [List.take_of_length_le (by rw [List.length_drop]; omega)]
theorem tokens_loop (s : ByteArray) (hs : s.size ≤ 4096) : ∀ (f p k : Nat) (ts : List S60), p ≤ s.size → s.size - p ≤ f → ts.length ≤ p → s.size + 61 + f ≤ k →
    lex_tokens.l0 k s ts (p : Int) = some (appT ts (lexL f p (s.data.toList.drop p))) := by
  intro f
  have hl := list_size s
  induction f with
  | zero =>
    intro p k ts hp hf ht hk
    obtain ⟨k, rfl⟩ : ∃ m, k = m + 1 := ⟨k - 1, by omega⟩
    rw [lex_tokens.l0, if_neg (by omega)]
    simp [lexL, appT]
  | succ f ih =>
    intro p k ts hp hf ht hk
    obtain ⟨k, rfl⟩ : ∃ m, k = m + 1 := ⟨k - 1, by omega⟩
    rw [lex_tokens.l0]
    by_cases hlt : p < s.size
    · have hlt' : p < s.data.toList.length := by omega
      have hg : s.data.toList[p]? = some s.data.toList[p] := List.getElem?_eq_getElem hlt'
      have hx : (s.extract p s.size).data.toList = s.data.toList.drop p := drop_list s p hp
      have hxs : (s.extract p s.size).size = s.size - p := by rw [ByteArray.size_extract]; omega
      have hcons := List.drop_eq_getElem_cons hlt'
      have hdl : (s.data.toList.drop p).length = s.size - p := by rw [List.length_drop, hl]
      rw [if_pos (by omega), if_pos (by omega), bt_list s p _ hg, of_is, mem_blanks, Option.bind_some, Int.toNat_natCast]
      rw [hcons]
      rw [hcons] at hx hdl
      generalize s.data.toList[p] = c at *
      generalize s.data.toList.drop (p + 1) = r at *
      rw [lexL]
      by_cases hb : isBlank c = true
      · rw [if_pos hb, if_pos hb, wrapS (by omega) (by omega), show ((p : Int) + 1) = ((p + 1 : Nat) : Int) from by omega]
        have hr : r = s.data.toList.drop (p + 1) := by
          have := congrArg List.tail hcons
          rw [List.tail_drop] at this
          exact this.symm
        rw [hr]
        exact ih (p + 1) k ts (by omega) (by omega) (by omega) (by omega)
      · rw [if_neg hb, if_neg hb]
        by_cases h35 : c = 35
        · rw [if_pos (by rw [h35]; rfl), if_pos h35]
          obtain ⟨a, b, fl, hc, ha⟩ := cut_is (s.extract p s.size) (by omega)
          rw [hx] at ha
          have hn1 : 1 ≤ cutN 10 (c :: r) := by rw [h35]; simp [cutN, List.takeWhile_cons]
          have hn2 := cutN_le 10 (c :: r)
          rw [hc, Option.bind_some]
          show lex_tokens.l0 k s ts (wrap64 ((p : Int) + (a.size : Int))) = _
          rw [wrapS (by omega) (by omega), show ((p : Int) + (a.size : Int)) = ((p + cutN 10 (c :: r) : Nat) : Int) from by omega, ← hcons, List.drop_drop]
          rw [hcons]
          exact ih (p + cutN 10 (c :: r)) k ts (by omega) (by omega) (by omega) (by omega)
        · have hc35 : ¬ ((c.toNat : Int)) = 35 := fun h => h35 (UInt8.toNat_inj.1 (by show c.toNat = 35; omega))
          rw [if_neg hc35, if_neg h35, token_is (s.extract p s.size) (by omega) (by omega) k (by omega), Option.bind_some, hx]
          have hlen := tokL_len (l := c :: r) (by simp)
          have hcd : ∀ n, (c :: r).drop n = s.data.toList.drop (p + n) := fun n => by rw [← hcons, List.drop_drop]
          unfold consT
          cases he : (tokL (c :: r)).2.2.2.2.2 with
          | some e => simp [appT]
          | none =>
            obtain ⟨n, hn, hn1, hn2⟩ := hlen he
            simp only [hn, Int.toNat_natCast]
            rw [if_pos (by omega), wrapS (by omega) (by omega), show ((p : Int) + (n : Int)) = ((p + n : Nat) : Int) from by omega, hcd n]
            rw [ih (p + n) k _ (by omega) (by omega) (by rw [List.length_append, List.length_singleton]; omega) (by omega)]
            unfold appT
            cases (lexL f (p + n) (s.data.toList.drop (p + n))).2 with
            | some e => rfl
            | none => simp
    · rw [if_neg (by omega), List.drop_eq_nil_of_le (by omega)]
      simp [lexL, appT]
/-- All of a text. -/
def lexS (s : ByteArray) : Lexed := if 4096 < s.size then ([], some (0, 200)) else match bad s 0 with
  | some a => ([], some ((a : Int), 200))
  | none => lexL s.size 0 s.data.toList
theorem appT_nil (r : Lexed) (h : ∀ e, r.2 = some e → r.1 = []) : appT [] r = r := by
  obtain ⟨ts, e⟩ := r
  unfold appT
  cases e with
  | none => rfl
  | some e =>
    obtain rfl : ts = [] := h e rfl
    rfl
theorem lexL_err : ∀ f p l e, (lexL f p l).2 = some e → (lexL f p l).1 = [] := by
  intro f
  induction f with
  | zero => intro p l e h; rfl
  | succ f ih =>
    intro p l e h
    cases l with
    | nil => rfl
    | cons c r =>
      rw [lexL] at h ⊢
      by_cases hb : isBlank c = true
      · rw [if_pos hb] at h ⊢
        exact ih _ _ _ h
      · rw [if_neg hb] at h ⊢
        by_cases h35 : c = 35
        · rw [if_pos h35] at h ⊢
          exact ih _ _ _ h
        · rw [if_neg h35] at h ⊢
          unfold consT at h ⊢
          cases he : (tokL (c :: r)).2.2.2.2.2 with
          | some e => rfl
          | none =>
            rw [he] at h
            simp only at h ⊢
            cases hx : (lexL f (p + (tokL (c :: r)).2.2.2.2.1.toNat) ((c :: r).drop (tokL (c :: r)).2.2.2.2.1.toNat)).2 with
            | some e => rfl
            | none => rw [hx] at h; cases h
theorem lexS_err (s : ByteArray) (e : Int × Int) (h : (lexS s).2 = some e) : (lexS s).1 = [] := by
  unfold lexS at h ⊢
  split
  · rfl
  · rename_i h4
    rw [if_neg h4] at h
    cases hb : bad s 0 with
    | some a => rfl
    | none =>
      rw [hb] at h
      exact lexL_err _ _ _ _ h
theorem lexS_is (s : ByteArray) (hs : s.size ≤ 281474976710656) (k : Nat) (hk : 2 * s.size + 100 ≤ k) : lex_tokens.f k s = some (lexS s) := by
  unfold lex_tokens.f lexS
  by_cases h4 : (s.size : Int) > 4096
  · rw [if_pos h4, if_pos (by omega)]
  · rw [if_neg h4, if_neg (by omega), Valid_is s hs k (by omega), Option.bind_some]
    cases hb : bad s 0 with
    | some a => rfl
    | none =>
      show lex_tokens.l0 k s [] 0 = _
      have := tokens_loop s (by omega) s.size 0 k [] (Nat.zero_le _) (by omega) (Nat.zero_le _) (by omega)
      rw [show ((0 : Nat) : Int) = 0 from rfl, List.drop_zero] at this
      rw [this, appT_nil _ (lexL_err _ _ _)]
/-- The answer of Tokens. -/
def tokS (s : ByteArray) : List S60 × Int × Int := ((lexS s).1, (told2 (lexS s).2).1, (told2 (lexS s).2).2)
theorem tokS_is (s : ByteArray) (hs : s.size ≤ 281474976710656) (k : Nat) (hk : 2 * s.size + 100 ≤ k) : lex_Tokens.f k s = some (tokS s) := by
  unfold lex_Tokens.f
  rw [lexS_is s hs k hk]
  rfl
end Go.Proofs.YtnogfhhfklkbiaaDoor.H

set_option linter.unusedVariables false
set_option linter.unusedSimpArgs false
namespace Go.Proofs.YtnogfhhfklkbiaaDoor.H
open Go.RowKit Go.Proofs.YtnogfhhfklkbiaaDoorW.PrintWords Go.Proofs.YtnogfhhfklkbiaaDoorW.PrintLast Go.Proofs.YtnogfhhfklkbiaaDoorW.PrintMore
open Go.Proofs.YtnogfhhfklkbiaaDoor.Src

theorem toList_injT {a b : ByteArray} : a.toList = b.toList ↔ a = b := by
  rw [toList_data, toList_data]
  exact ⟨bytes_ext, fun h => by rw [h]⟩
theorem toList_beqT (a b : ByteArray) : (a.toList == b.toList) = decide (a = b) := by
  by_cases h : a = b
  · subst h; simp
  · have : ¬ a.toList = b.toList := fun h' => h (toList_injT.1 h')
    rw [decide_eq_false h]
    simpa using this
theorem tok_ext {x y : S60} (h0 : x.f0 = y.f0) (h1 : x.f1 = y.f1) (h2 : x.f2 = y.f2) (h3 : x.f3 = y.f3) : x = y := by
  cases x; cases y
  simp only at h0 h1 h2 h3
  subst h0; subst h1; subst h2; subst h3
  rfl
def eqTok (x y : S60) : Bool := x.f0 == y.f0 && (decide (x.f1 = y.f1) && (x.f2 == y.f2 && x.f3 == y.f3))
theorem eqTok_iff (x y : S60) : eqTok x y = true ↔ x = y := by
  constructor
  · intro h
    simp only [eqTok, Bool.and_eq_true, beq_iff_eq, decide_eq_true_eq] at h
    obtain ⟨h0, h1, h2, h3⟩ := h
    exact tok_ext h0 h1 h2 h3
  · rintro rfl
    simp [eqTok]
def eqToks : List S60 → List S60 → Bool
  | x :: xs, y :: ys => eqTok x y && eqToks xs ys
  | [], [] => true
  | _, _ => false
theorem eqToks_iff : ∀ xs ys, eqToks xs ys = true ↔ xs = ys
  | x :: xs, y :: ys => by rw [eqToks, Bool.and_eq_true, eqTok_iff, eqToks_iff xs ys, List.cons.injEq]
  | [], [] => by simp [eqToks]
  | [], y :: ys => by simp [eqToks]
  | x :: xs, [] => by simp [eqToks]
theorem rdT_at (l : List S60) (i : Nat) (h : i < l.length) : rd_T60 l (i : Int) = l[i] := by
  rw [rd_T60, Int.toNat_natCast, List.getD_eq_getElem?_getD, List.getElem?_eq_getElem h]
  rfl
theorem sameT_loop (l m : List S60) (hlm : l.length = m.length) (hl : l.length ≤ 1000000000000000) : ∀ (d i k : Nat), l.length - i = d → i ≤ l.length → d < k → trammellaw0_SameTokens.l0 k l m (i : Int) = some (eqToks (l.drop i) (m.drop i)) := by
  intro d
  induction d with
  | zero =>
    intro i k hd hi hk
    obtain ⟨k, rfl⟩ : ∃ n, k = n + 1 := ⟨k - 1, by omega⟩
    simp only [trammellaw0_SameTokens.l0]
    rw [if_neg (by omega), List.drop_eq_nil_of_le (by omega), List.drop_eq_nil_of_le (by omega)]
    rfl
  | succ d ih =>
    intro i k hd hi hk
    obtain ⟨k, rfl⟩ : ∃ n, k = n + 1 := ⟨k - 1, by omega⟩
    have hlt : i < l.length := by omega
    have hmt : i < m.length := by omega
    simp only [trammellaw0_SameTokens.l0]
    rw [if_pos (by omega), if_pos (by omega), if_pos (by omega), rdT_at l i hlt, rdT_at m i hmt, List.drop_eq_getElem_cons hlt, List.drop_eq_getElem_cons hmt, eqToks]
    simp only [toList_beqT]
    have e : ∀ x y : S60, (!(x.f0 == y.f0) || (!(decide (x.f1 = y.f1)) || (!(x.f2 == y.f2) || (!(x.f3 == y.f3))))) = !eqTok x y := by
      intro x y
      simp only [eqTok, Bool.not_and]
    rw [e]
    cases eqTok l[i] m[i]
    · simp
    · simp only [Bool.not_true, Bool.false_eq_true, if_false, Bool.true_and]
      rw [wrapS (by omega) (by omega), show ((i : Int) + 1) = ((i + 1 : Nat) : Int) from by omega]
      exact ih (i + 1) k (by omega) (by omega) (by omega)
theorem sameT_is (l m : List S60) (k : Nat) (hk : l.length < k) (hl : l.length ≤ 1000000000000000) : trammellaw0_SameTokens.f k l m = some (eqToks l m) := by
  unfold trammellaw0_SameTokens.f
  by_cases h : l.length = m.length
  · rw [if_pos (by omega)]
    have := sameT_loop l m h hl l.length 0 k rfl (Nat.zero_le _) hk
    simpa using this
  · rw [if_neg (by omega)]
    cases he : eqToks l m
    · rfl
    · exact (h (by rw [(eqToks_iff l m).1 he])).elim
def sameTQ (l m : List S60) : Option Bool := if l.length < 300 then some (eqToks l m) else trammellaw0_SameTokens.f 300 l m
theorem sameT_Q (l m : List S60) : trammellaw0_SameTokens.f 300 l m = sameTQ l m := by
  unfold sameTQ
  split
  · rename_i h
    exact sameT_is l m 300 h (by omega)
  · rfl
/-- Where a text goes wrong, with so many rounds. -/
def badF : Nat → ByteArray → Nat → Option Nat
  | 0, _, _ => none
  | f + 1, s, i => if i < s.size then (if wd s i = 0 then some i else badF f s (i + wd s i)) else none
theorem badF_is (s : ByteArray) : ∀ f i, s.size - i < f → badF f s i = bad s i
  | 0, i, h => by omega
  | f + 1, i, h => by
    unfold badF
    by_cases hi : i < s.size
    · rw [if_pos hi]
      by_cases hw : wd s i = 0
      · rw [if_pos hw, bad_here hi hw]
      · rw [if_neg hw, bad_on hi hw]
        exact badF_is s f _ (by omega)
    · rw [if_neg hi, bad_end (by omega)]
def lexQ (s : ByteArray) : Lexed := if 4096 < s.size then ([], some (0, 200)) else match badF (s.size + 1) s 0 with
  | some a => ([], some ((a : Int), 200))
  | none => lexL s.size 0 s.data.toList
theorem lexQ_is (s : ByteArray) : lexS s = lexQ s := by
  have e := badF_is s (s.size + 1) 0 (by omega)
  unfold lexS lexQ
  by_cases h : 4096 < s.size
  · simp only [h, if_true]
  · simp only [h, if_false]
    generalize badF (s.size + 1) s 0 = x at *
    subst e
    cases bad s 0 <;> rfl
def tokQ (s : ByteArray) : Option (List S60 × Int × Int) := if s.size ≤ 100 then some ((lexQ s).1, (told2 (lexQ s).2).1, (told2 (lexQ s).2).2) else lex_Tokens.f 300 s
theorem tok_Q (s : ByteArray) : lex_Tokens.f 300 s = tokQ s := by
  unfold tokQ
  split
  · rename_i h
    rw [tokS_is s (by omega) 300 (by omega), tokS, lexQ_is]
  · rfl
theorem kw_Q (s : ByteArray) : lex_Keyword.f 300 s = some (kw s.data.toList) := keyword_is s 300 (by decide)
end Go.Proofs.YtnogfhhfklkbiaaDoor.H
