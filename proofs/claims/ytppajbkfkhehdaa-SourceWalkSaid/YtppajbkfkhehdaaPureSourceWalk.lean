/- SourceWalk: the widths of a text's signs lead to its end, or to where it is none. No condition. -/
import Derived.Test.YtppajbkfkhehdaaPSourceWalkx2
import Derived.Test.YtppajbkfkhehdaaSrc
import Derived.Test.YtppajbkfkhehdaaBits
set_option linter.unusedVariables false
set_option linter.unusedSimpArgs false
set_option maxHeartbeats 1000000
namespace Go.Proofs.Ytppajbkfkhehdaa.Pure
open Go.RowKit Go.Proofs.Ytppajbkfkhehdaa.PSourceWalk Go.Proofs.YtppajbkfkhehdaaW.PrintWords Go.Proofs.YtppajbkfkhehdaaW.PrintLast
open Go.Proofs.Ytppajbkfkhehdaa.Src
theorem lead_is (k : Nat) (b : Int) (hb : 0 ≤ b ∧ b ≤ 255) : ∃ lo hi, source_lead.f (k + 1) b = some (if b < 128 then 1 else if b < 194 ∨ 244 < b then 0 else if b < 224 then 2 else if b < 240 then 3 else 4, lo, hi) ∧
    (128 ≤ b → b ≤ 244 → 194 ≤ b → lo = (if b = 224 then 160 else if b = 240 then 144 else 128) ∧ hi = (if b = 237 then 159 else if b = 244 then 143 else 191)) := by
  unfold source_lead.f
  by_cases h1 : b < 128
  · rw [if_pos h1]
    exact ⟨0, 0, by simp [h1], fun h => by omega⟩
  · rw [if_neg h1]
    by_cases h2 : b < 194
    · rw [if_pos h2]
      exact ⟨0, 0, by simp [source_lead.j0, h1, h2], fun _ _ h => by omega⟩
    · rw [if_neg h2]
      by_cases h3 : 244 < b
      · exact ⟨0, 0, by simp [source_lead.j0, h1, h2, h3], fun _ h => by omega⟩
      · simp only [source_lead.j0, h1, h2, h3, decide_false, if_false, or_self, gt_iff_lt, Bool.false_eq_true]
        repeat' split
        all_goals first | omega | exact ⟨_, _, rfl, fun _ _ _ => ⟨by simp; try omega, by simp; try omega⟩⟩

theorem tail_is (b : Int) : source_tail.f b = some (decide (128 ≤ b ∧ b ≤ 191)) := by
  unfold source_tail.f
  by_cases h : b ≥ 128
  · rw [if_pos h]; congr 1; by_cases g : b ≤ 191 <;> simp <;> omega
  · rw [if_neg h]; congr 1; simp; omega

theorem width_is (k : Nat) (s : ByteArray) : source_width.f (k + 1) s = some (wd5 s.size (bt s 0) (bt s 1) (bt s 2) (bt s 3)) := by
  unfold source_width.f
  by_cases h0 : s.size = 0
  · rw [if_pos ((toList_size s).2 h0)]
    unfold wd5
    rw [if_pos (by omega)]
  · rw [if_neg (fun h => h0 ((toList_size s).1 h)), if_pos (by omega)]
    have hb := bt_range s 0
    obtain ⟨lo, hi, e, hl⟩ := lead_is k (bt s 0) hb
    rw [e]
    simp only [Option.bind_some, tail_is]
    generalize bt s 0 = b0 at *
    generalize bt s 1 = b1 at *
    generalize bt s 2 = b2 at *
    generalize bt s 3 = b3 at *
    generalize hn : (s.size : Int) = n at *
    have hn0 : 0 < n := by omega
    clear hn h0 e
    unfold wd5
    by_cases h1 : b0 < 128
    · simp only [h1, if_true]
      rw [if_neg (by omega), if_neg (by omega), if_neg (by omega), if_neg (by omega), if_neg (by omega)]
    · by_cases h2 : b0 < 194 ∨ 244 < b0
      · simp only [h1, h2, if_true, if_false]
        rw [if_neg (by omega), if_neg (by omega), if_neg (by omega), if_neg (by omega), if_neg (by omega)]
      · obtain ⟨rfl, rfl⟩ := hl (by omega) (by omega) (by omega)
        simp only [h1, h2, if_false]
        rw [if_neg (by omega : ¬ n ≤ 0)]
        by_cases h3 : b0 < 224
        · simp only [h3, if_true]
          rw [if_neg (by omega : ¬ b0 = 224), if_neg (by omega : ¬ b0 = 240), if_neg (by omega : ¬ b0 = 237), if_neg (by omega : ¬ b0 = 244)]
          by_cases g : 2 > n
          · rw [if_pos g, if_neg (by omega)]
          · simp only [if_neg g, show ((2 : Int) = 4) = False by decide, show ((2 : Int) = 3) = False by decide, eq_self_iff_true, if_true, if_false, if_pos (show 1 < n by omega)]
            repeat' split
            all_goals first | rfl | omega
        · by_cases h4 : b0 < 240
          · simp only [h3, h4, if_true, if_false]
            rw [if_neg (by omega : ¬ b0 = 240), if_neg (by omega : ¬ b0 = 244)]
            by_cases g : 3 > n
            · rw [if_pos g, if_neg (by omega)]
            · simp only [if_neg g, show ((3 : Int) = 4) = False by decide, eq_self_iff_true, if_true, if_false, if_pos (show 2 < n by omega), if_pos (show 1 < n by omega), decide_eq_true_eq]
              by_cases t2 : 128 ≤ b2 ∧ b2 ≤ 191
              · rw [if_pos t2]
                by_cases q : b0 = 224
                · have q' : ¬ b0 = 237 := by omega
                  simp only [q, q', if_true, if_false]
                  repeat' split
                  all_goals first | rfl | omega
                · by_cases q' : b0 = 237
                  · simp only [q, q', if_true, if_false]
                    repeat' split
                    all_goals first | rfl | omega
                  · simp only [q, q', if_false]
                    repeat' split
                    all_goals first | rfl | omega
              · rw [if_neg t2, if_neg (by omega)]
          · simp only [h3, h4, if_false]
            rw [if_neg (by omega : ¬ b0 = 224), if_neg (by omega : ¬ b0 = 237)]
            by_cases g : 4 > n
            · rw [if_pos g, if_neg (by omega)]
            · simp only [if_neg g, eq_self_iff_true, if_true, if_false, if_pos (show 3 < n by omega), if_pos (show 2 < n by omega), if_pos (show 1 < n by omega), decide_eq_true_eq]
              by_cases t3 : 128 ≤ b3 ∧ b3 ≤ 191
              · rw [if_pos t3]
                by_cases t2 : 128 ≤ b2 ∧ b2 ≤ 191
                · rw [if_pos t2]
                  by_cases q : b0 = 240
                  · have q' : ¬ b0 = 244 := by omega
                    simp only [q, q', if_true, if_false]
                    repeat' split
                    all_goals first | rfl | omega
                  · by_cases q' : b0 = 244
                    · simp only [q, q', if_true, if_false]
                      repeat' split
                      all_goals first | rfl | omega
                    · simp only [q, q', if_false]
                      repeat' split
                      all_goals first | rfl | omega
                · rw [if_neg t2, if_neg (by omega)]
              · rw [if_neg t3, if_neg (by omega)]

theorem wd5_out (n b0 b1 b2 b3 c1 c2 c3 : Int) (h1 : 1 < n → c1 = b1) (h2 : 2 < n → c2 = b2) (h3 : 3 < n → c3 = b3) : wd5 n b0 b1 b2 b3 = wd5 n b0 c1 c2 c3 := by
  by_cases g1 : 1 < n
  · have e1 := h1 g1
    by_cases g2 : 2 < n
    · have e2 := h2 g2
      by_cases g3 : 3 < n
      · rw [h3 g3, e1, e2]
      · subst e1; subst e2
        unfold wd5
        repeat' split
        all_goals omega
    · subst e1
      unfold wd5
      repeat' split
      all_goals omega
  · unfold wd5
    repeat' split
    all_goals omega

theorem width_at (k : Nat) (s : ByteArray) (i : Nat) (h : i < s.size) : source_width.f (k + 1) (s.extract i s.size) = some (wd s i : Int) := by
  have hz : (s.extract i s.size).size = s.size - i := by rw [ByteArray.size_extract]; omega
  rw [width_is, wd_int, hz, bt_extract s i s.size 0 (by omega) (by omega) (by omega), Int.add_zero, show (((s.size - i : Nat) : Int)) = (s.size : Int) - i from by omega]
  congr 1
  exact wd5_out _ _ _ _ _ _ _ _ (fun g => (bt_extract s i s.size 1 (by omega) (by omega) (by omega)).symm) (fun g => (bt_extract s i s.size 2 (by omega) (by omega) (by omega)).symm) (fun g => (bt_extract s i s.size 3 (by omega) (by omega) (by omega)).symm)

theorem wrap_small {x : Int} (h0 : 0 ≤ x) (h1 : x ≤ 562949953421312) : wrap64 x = x := by
  unfold wrap64
  omega

theorem Valid_loop (s : ByteArray) (hs : s.size ≤ 281474976710656) (i : Nat) : ∀ k, s.size - i + 2 ≤ k → source_Valid.l0 k s i = some (told (bad s i)) := by
  refine walk (s := s) (P := fun i => ∀ k, s.size - i + 2 ≤ k → source_Valid.l0 k s i = some (told (bad s i))) ?_ ?_ ?_ i
  · intro i h k hk
    obtain ⟨k, rfl⟩ : ∃ m, k = m + 1 := ⟨k - 1, by omega⟩
    simp only [source_Valid.l0]
    rw [if_neg (by omega), bad_end h]
    rfl
  · intro i h hw k hk
    obtain ⟨k, rfl⟩ : ∃ m, k = m + 2 := ⟨k - 2, by omega⟩
    simp only [source_Valid.l0]
    rw [if_pos (by omega), if_pos (by omega), if_pos (by omega), Int.toNat_natCast, width_at k s i h]
    simp only [Option.bind_some]
    rw [if_pos (by omega), bad_here h hw]
    rfl
  · intro i h hw ih k hk
    obtain ⟨k, rfl⟩ : ∃ m, k = m + 2 := ⟨k - 2, by omega⟩
    have k2 := wd_le s i h
    simp only [source_Valid.l0]
    rw [if_pos (by omega), if_pos (by omega), if_pos (by omega), Int.toNat_natCast, width_at k s i h]
    simp only [Option.bind_some]
    rw [if_neg (by omega), wrap_small (by omega) (by omega), bad_on h hw, show ((i : Int) + (wd s i : Nat)) = ((i + wd s i : Nat) : Int) from by omega]
    exact ih (k + 1) (by omega)

theorem Valid_is (s : ByteArray) (hs : s.size ≤ 281474976710656) (k : Nat) (hk : s.size + 2 ≤ k) : source_Valid.f k s = some (told (bad s 0)) := by
  unfold source_Valid.f
  exact Valid_loop s hs 0 k (by omega)

theorem Width_is (s : ByteArray) (at_ : Int) (k : Nat) : source_Width.f (k + 2) s at_ = some (if 0 ≤ at_ ∧ at_ < s.size ∧ wd s at_.toNat ≠ 0 then ((wd s at_.toNat : Int), 0) else (0, 100)) := by
  unfold source_Width.f
  by_cases h0 : at_ < 0
  · rw [if_pos h0, if_neg (by omega)]
    rfl
  · rw [if_neg h0]
    by_cases h1 : at_ ≥ s.size
    · rw [if_neg (by omega)]
      simp [source_Width.j0, h1]
    · obtain ⟨i, rfl⟩ := Int.eq_ofNat_of_zero_le (Int.not_lt.1 h0)
      have h : i < s.size := by omega
      simp only [source_Width.j0, Int.toNat_natCast]
      rw [if_neg (by simpa using h), if_pos (by omega), if_pos (by omega), width_at k s i h]
      simp only [Option.bind_some]
      by_cases hw : wd s i = 0
      · rw [if_pos (by omega), if_neg (by simp [hw])]
      · rw [if_neg (by omega), if_pos ⟨by omega, by omega, hw⟩]

theorem awake_is : trammellaw1_awake.f 20 = some true := by decide +kernel
theorem awake_at (k : Nat) (hk : 20 ≤ k) : trammellaw1_awake.f k = some true := at_rounds trammellaw1_awake.mono hk awake_is

theorem loop_is (s : ByteArray) (hs : s.size ≤ 281474976710656) (b : Option Nat) (i : Nat) : bad s i = b → ∀ k, s.size - i + 3 ≤ k → trammellaw1_SourceWalk.l0 k s (told b).1 (told b).2 i = some true := by
  refine walk (s := s) (P := fun i => bad s i = b → ∀ k, s.size - i + 3 ≤ k → trammellaw1_SourceWalk.l0 k s (told b).1 (told b).2 i = some true) ?_ ?_ ?_ i
  · intro i h hb k hk
    obtain ⟨k, rfl⟩ : ∃ m, k = m + 1 := ⟨k - 1, by omega⟩
    rw [bad_end h] at hb
    subst hb
    simp only [trammellaw1_SourceWalk.l0, told]
    rw [if_neg (by omega)]
    rfl
  · intro i h hw hb k hk
    obtain ⟨k, rfl⟩ : ∃ m, k = m + 3 := ⟨k - 3, by omega⟩
    rw [bad_here h hw] at hb
    subst hb
    simp only [trammellaw1_SourceWalk.l0, told]
    rw [if_pos (by omega), Width_is, if_neg (by simp [hw])]
    simp [trammellaw0_Num.f]
  · intro i h hw ih hb k hk
    obtain ⟨k, rfl⟩ : ∃ m, k = m + 3 := ⟨k - 3, by omega⟩
    rw [bad_on h hw] at hb
    have k2 := wd_le s i h
    simp only [trammellaw1_SourceWalk.l0]
    rw [if_pos (by omega), Width_is, if_pos ⟨by omega, by omega, by simpa using hw⟩]
    simp only [Option.bind_some, trammellaw0_Num.f, if_true, Int.toNat_natCast]
    rw [if_neg (by omega), if_neg (by omega), wrap_small (by omega) (by omega), if_neg (by omega), show ((i : Int) + (wd s i : Nat)) = ((i + wd s i : Nat) : Int) from by omega]
    exact ih hb (k + 2) (by omega)

theorem SourceWalk : trammellaw1_SourceWalk.Pure := by
  intro s hs0
  have hs : s.size ≤ 281474976710656 := by omega
  refine ⟨s.size + 50, ?_⟩
  unfold trammellaw1_SourceWalk.f
  rw [Valid_is s hs _ (by omega), awake_at _ (by omega)]
  simp only [Option.bind_some, if_true]
  exact loop_is s hs _ 0 rfl _ (by omega)

end Go.Proofs.Ytppajbkfkhehdaa.Pure
