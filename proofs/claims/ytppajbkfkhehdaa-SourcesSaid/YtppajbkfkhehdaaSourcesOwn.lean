/- Sources: the program's Valid and Width answer as the document's do, at any text and any place. No condition. The law's own function (3) is walked here; what it calls is printed. -/
import Derived.Test.YtppajbkfkhehdaaPSourcesx5
import Derived.Test.YtppajbkfkhehdaaSrc
set_option linter.unusedVariables false
set_option linter.unusedSimpArgs false
set_option maxHeartbeats 1000000
namespace Go.Proofs.Ytppajbkfkhehdaa.Sourced
open Go.RowKit Go.Proofs.Ytppajbkfkhehdaa.PSources Go.Proofs.YtppajbkfkhehdaaW.PrintWords Go.Proofs.YtppajbkfkhehdaaW.PrintLast
open Go.Proofs.Ytppajbkfkhehdaa.Src
theorem lead_is (k : Nat) (b : Int) (hb : 0 ≤ b ∧ b ≤ 255) : ∃ lo hi, source_lead.f (k + 1) b = some (if b < 128 then 1 else if b < 194 ∨ 244 < b then 0 else if b < 224 then 2 else if b < 240 then 3 else 4, lo, hi) ∧
    (128 ≤ b → b ≤ 244 → 194 ≤ b → lo = (if b = 224 then 160 else if b = 240 then 144 else 128) ∧ hi = (if b = 237 then 159 else if b = 244 then 143 else 191)) := by
  unfold source_lead.f
  by_cases h1 : b < 128
  · rw [if_pos h1]
    exact ⟨0, 0, by simp [h1], fun h => by omega⟩
  · rw [if_neg h1]
    by_cases h2 : b < 194
    · rw [if_pos h2]
      exact ⟨0, 0, by simp [source_lead.j0, h1, h2], fun _ _ h => by omega⟩
    · rw [if_neg h2]
      by_cases h3 : 244 < b
      · exact ⟨0, 0, by simp [source_lead.j0, h1, h2, h3], fun _ h => by omega⟩
      · simp only [source_lead.j0, h1, h2, h3, decide_false, if_false, or_self, gt_iff_lt, Bool.false_eq_true]
        repeat' split
        all_goals first | omega | exact ⟨_, _, rfl, fun _ _ _ => ⟨by simp; try omega, by simp; try omega⟩⟩

theorem tail_is (b : Int) : source_tail.f b = some (decide (128 ≤ b ∧ b ≤ 191)) := by
  unfold source_tail.f
  by_cases h : b ≥ 128
  · rw [if_pos h]; congr 1; by_cases g : b ≤ 191 <;> simp <;> omega
  · rw [if_neg h]; congr 1; simp; omega

theorem width_is (k : Nat) (s : ByteArray) : source_width.f (k + 1) s = some (wd5 s.size (bt s 0) (bt s 1) (bt s 2) (bt s 3)) := by
  unfold source_width.f
  by_cases h0 : s.size = 0
  · rw [if_pos ((toList_size s).2 h0)]
    unfold wd5
    rw [if_pos (by omega)]
  · rw [if_neg (fun h => h0 ((toList_size s).1 h)), if_pos (by omega)]
    have hb := bt_range s 0
    obtain ⟨lo, hi, e, hl⟩ := lead_is k (bt s 0) hb
    rw [e]
    simp only [Option.bind_some, tail_is]
    generalize bt s 0 = b0 at *
    generalize bt s 1 = b1 at *
    generalize bt s 2 = b2 at *
    generalize bt s 3 = b3 at *
    generalize hn : (s.size : Int) = n at *
    have hn0 : 0 < n := by omega
    clear hn h0 e
    unfold wd5
    by_cases h1 : b0 < 128
    · simp only [h1, if_true]
      rw [if_neg (by omega), if_neg (by omega), if_neg (by omega), if_neg (by omega), if_neg (by omega)]
    · by_cases h2 : b0 < 194 ∨ 244 < b0
      · simp only [h1, h2, if_true, if_false]
        rw [if_neg (by omega), if_neg (by omega), if_neg (by omega), if_neg (by omega), if_neg (by omega)]
      · obtain ⟨rfl, rfl⟩ := hl (by omega) (by omega) (by omega)
        simp only [h1, h2, if_false]
        rw [if_neg (by omega : ¬ n ≤ 0)]
        by_cases h3 : b0 < 224
        · simp only [h3, if_true]
          rw [if_neg (by omega : ¬ b0 = 224), if_neg (by omega : ¬ b0 = 240), if_neg (by omega : ¬ b0 = 237), if_neg (by omega : ¬ b0 = 244)]
          by_cases g : 2 > n
          · rw [if_pos g, if_neg (by omega)]
          · simp only [if_neg g, show ((2 : Int) = 4) = False by decide, show ((2 : Int) = 3) = False by decide, eq_self_iff_true, if_true, if_false, if_pos (show 1 < n by omega)]
            repeat' split
            all_goals first | rfl | omega
        · by_cases h4 : b0 < 240
          · simp only [h3, h4, if_true, if_false]
            rw [if_neg (by omega : ¬ b0 = 240), if_neg (by omega : ¬ b0 = 244)]
            by_cases g : 3 > n
            · rw [if_pos g, if_neg (by omega)]
            · simp only [if_neg g, show ((3 : Int) = 4) = False by decide, eq_self_iff_true, if_true, if_false, if_pos (show 2 < n by omega), if_pos (show 1 < n by omega), decide_eq_true_eq]
              by_cases t2 : 128 ≤ b2 ∧ b2 ≤ 191
              · rw [if_pos t2]
                by_cases q : b0 = 224
                · have q' : ¬ b0 = 237 := by omega
                  simp only [q, q', if_true, if_false]
                  repeat' split
                  all_goals first | rfl | omega
                · by_cases q' : b0 = 237
                  · simp only [q, q', if_true, if_false]
                    repeat' split
                    all_goals first | rfl | omega
                  · simp only [q, q', if_false]
                    repeat' split
                    all_goals first | rfl | omega
              · rw [if_neg t2, if_neg (by omega)]
          · simp only [h3, h4, if_false]
            rw [if_neg (by omega : ¬ b0 = 224), if_neg (by omega : ¬ b0 = 237)]
            by_cases g : 4 > n
            · rw [if_pos g, if_neg (by omega)]
            · simp only [if_neg g, eq_self_iff_true, if_true, if_false, if_pos (show 3 < n by omega), if_pos (show 2 < n by omega), if_pos (show 1 < n by omega), decide_eq_true_eq]
              by_cases t3 : 128 ≤ b3 ∧ b3 ≤ 191
              · rw [if_pos t3]
                by_cases t2 : 128 ≤ b2 ∧ b2 ≤ 191
                · rw [if_pos t2]
                  by_cases q : b0 = 240
                  · have q' : ¬ b0 = 244 := by omega
                    simp only [q, q', if_true, if_false]
                    repeat' split
                    all_goals first | rfl | omega
                  · by_cases q' : b0 = 244
                    · simp only [q, q', if_true, if_false]
                      repeat' split
                      all_goals first | rfl | omega
                    · simp only [q, q', if_false]
                      repeat' split
                      all_goals first | rfl | omega
                · rw [if_neg t2, if_neg (by omega)]
              · rw [if_neg t3, if_neg (by omega)]

theorem wd5_out (n b0 b1 b2 b3 c1 c2 c3 : Int) (h1 : 1 < n → c1 = b1) (h2 : 2 < n → c2 = b2) (h3 : 3 < n → c3 = b3) : wd5 n b0 b1 b2 b3 = wd5 n b0 c1 c2 c3 := by
  by_cases g1 : 1 < n
  · have e1 := h1 g1
    by_cases g2 : 2 < n
    · have e2 := h2 g2
      by_cases g3 : 3 < n
      · rw [h3 g3, e1, e2]
      · subst e1; subst e2
        unfold wd5
        repeat' split
        all_goals omega
    · subst e1
      unfold wd5
      repeat' split
      all_goals omega
  · unfold wd5
    repeat' split
    all_goals omega

theorem width_at (k : Nat) (s : ByteArray) (i : Nat) (h : i < s.size) : source_width.f (k + 1) (s.extract i s.size) = some (wd s i : Int) := by
  have hz : (s.extract i s.size).size = s.size - i := by rw [ByteArray.size_extract]; omega
  rw [width_is, wd_int, hz, bt_extract s i s.size 0 (by omega) (by omega) (by omega), Int.add_zero, show (((s.size - i : Nat) : Int)) = (s.size : Int) - i from by omega]
  congr 1
  exact wd5_out _ _ _ _ _ _ _ _ (fun g => (bt_extract s i s.size 1 (by omega) (by omega) (by omega)).symm) (fun g => (bt_extract s i s.size 2 (by omega) (by omega) (by omega)).symm) (fun g => (bt_extract s i s.size 3 (by omega) (by omega) (by omega)).symm)

theorem wrap_small {x : Int} (h0 : 0 ≤ x) (h1 : x ≤ 562949953421312) : wrap64 x = x := by
  unfold wrap64
  omega

theorem Valid_loop (s : ByteArray) (hs : s.size ≤ 281474976710656) (i : Nat) : ∀ k, s.size - i + 2 ≤ k → source_Valid.l0 k s i = some (told (bad s i)) := by
  refine walk (s := s) (P := fun i => ∀ k, s.size - i + 2 ≤ k → source_Valid.l0 k s i = some (told (bad s i))) ?_ ?_ ?_ i
  · intro i h k hk
    obtain ⟨k, rfl⟩ : ∃ m, k = m + 1 := ⟨k - 1, by omega⟩
    simp only [source_Valid.l0]
    rw [if_neg (by omega), bad_end h]
    rfl
  · intro i h hw k hk
    obtain ⟨k, rfl⟩ : ∃ m, k = m + 2 := ⟨k - 2, by omega⟩
    simp only [source_Valid.l0]
    rw [if_pos (by omega), if_pos (by omega), if_pos (by omega), Int.toNat_natCast, width_at k s i h]
    simp only [Option.bind_some]
    rw [if_pos (by omega), bad_here h hw]
    rfl
  · intro i h hw ih k hk
    obtain ⟨k, rfl⟩ : ∃ m, k = m + 2 := ⟨k - 2, by omega⟩
    have k2 := wd_le s i h
    simp only [source_Valid.l0]
    rw [if_pos (by omega), if_pos (by omega), if_pos (by omega), Int.toNat_natCast, width_at k s i h]
    simp only [Option.bind_some]
    rw [if_neg (by omega), wrap_small (by omega) (by omega), bad_on h hw, show ((i : Int) + (wd s i : Nat)) = ((i + wd s i : Nat) : Int) from by omega]
    exact ih (k + 1) (by omega)

theorem Valid_is (s : ByteArray) (hs : s.size ≤ 281474976710656) (k : Nat) (hk : s.size + 2 ≤ k) : source_Valid.f k s = some (told (bad s 0)) := by
  unfold source_Valid.f
  exact Valid_loop s hs 0 k (by omega)

theorem Width_is (s : ByteArray) (at_ : Int) (k : Nat) : source_Width.f (k + 2) s at_ = some (if 0 ≤ at_ ∧ at_ < s.size ∧ wd s at_.toNat ≠ 0 then ((wd s at_.toNat : Int), 0) else (0, 100)) := by
  unfold source_Width.f
  by_cases h0 : at_ < 0
  · rw [if_pos h0, if_neg (by omega)]
    rfl
  · rw [if_neg h0]
    by_cases h1 : at_ ≥ s.size
    · rw [if_neg (by omega)]
      simp [source_Width.j0, h1]
    · obtain ⟨i, rfl⟩ := Int.eq_ofNat_of_zero_le (Int.not_lt.1 h0)
      have h : i < s.size := by omega
      simp only [source_Width.j0, Int.toNat_natCast]
      rw [if_neg (by simpa using h), if_pos (by omega), if_pos (by omega), width_at k s i h]
      simp only [Option.bind_some]
      by_cases hw : wd s i = 0
      · rw [if_pos (by omega), if_neg (by simp [hw])]
      · rw [if_neg (by omega), if_pos ⟨by omega, by omega, hw⟩]

theorem awake_is : trammellaw1_awake.f 20 = some true := by decide +kernel
theorem awake_at (k : Nat) (hk : 20 ≤ k) : trammellaw1_awake.f k = some true := at_rounds trammellaw1_awake.mono hk awake_is
theorem loop_is (s : ByteArray) (hs : s.size ≤ 281474976710656) (i : Nat) (n : Int) (hn0 : 2 ≤ n) (hn : n ≤ 4) (h : (i : Int) + n ≤ s.size) (k : Nat) :
    trammelref1_Width.l0 (k + 4) s i n 2 = some (if (3 ≤ n → 128 ≤ bt s (i + 2) ∧ bt s (i + 2) ≤ 191) ∧ (4 ≤ n → 128 ≤ bt s (i + 3) ∧ bt s (i + 3) ≤ 191) then n else 0) := by
  by_cases g3 : 3 ≤ n
  · simp only [trammelref1_Width.l0]
    rw [if_pos (by omega), wrap_small (by omega) (by omega), if_pos (by omega), if_pos (by omega)]
    by_cases b2 : bt s (i + 2) < 128
    · rw [if_pos b2, if_neg (by omega)]
    · rw [if_neg b2]
      by_cases c2 : bt s (i + 2) > 191
      · rw [if_pos c2, if_neg (by omega)]
      · rw [if_neg c2, wrap_small (by omega) (by omega)]
        by_cases g4 : 4 ≤ n
        · rw [if_pos (by omega), show ((2 : Int) + 1) = 3 from rfl, wrap_small (by omega) (by omega), if_pos (by omega), if_pos (by omega)]
          by_cases b3 : bt s (i + 3) < 128
          · rw [if_pos b3, if_neg (by omega)]
          · rw [if_neg b3]
            by_cases c3 : bt s (i + 3) > 191
            · rw [if_pos c3, if_neg (by omega)]
            · rw [if_neg c3, wrap_small (by omega) (by omega), if_neg (by omega), if_pos (by omega)]
        · rw [if_neg (by omega), if_pos (by omega)]
  · simp only [trammelref1_Width.l0]
    rw [if_neg (by omega), if_pos (by omega)]

theorem j4_is (s : ByteArray) (hs : s.size ≤ 281474976710656) (i : Nat) (n lo hi : Int) (hn0 : 2 ≤ n) (hn : n ≤ 4) (h : i < s.size) (k : Nat) :
    trammelref1_Width.j4 (k + 6) s i n lo hi = some (if (i : Int) + n ≤ s.size ∧ lo ≤ bt s (i + 1) ∧ bt s (i + 1) ≤ hi ∧ (3 ≤ n → 128 ≤ bt s (i + 2) ∧ bt s (i + 2) ≤ 191) ∧ (4 ≤ n → 128 ≤ bt s (i + 3) ∧ bt s (i + 3) ≤ 191) then n else 0) := by
  simp only [trammelref1_Width.j4]
  rw [wrap_small (x := (i : Int) + n) (by omega) (by omega)]
  by_cases g : (i : Int) + n > s.size
  · rw [if_pos g, if_neg (by omega)]
    simp [trammelref1_Width.j5]
  · rw [if_neg g, wrap_small (by omega) (by omega), if_pos (by omega), if_pos (by omega)]
    by_cases b1 : bt s (i + 1) < lo
    · rw [if_pos b1, if_neg (by omega)]
      simp [trammelref1_Width.j5]
    · rw [if_neg b1]
      simp only [trammelref1_Width.j5]
      by_cases c1 : bt s (i + 1) > hi
      · rw [if_pos (by simpa using c1), if_neg (by omega)]
      · rw [if_neg (by simpa using c1), loop_is s hs i n hn0 hn (by omega) k]
        congr 1
        by_cases q : (3 ≤ n → 128 ≤ bt s (i + 2) ∧ bt s (i + 2) ≤ 191) ∧ (4 ≤ n → 128 ≤ bt s (i + 3) ∧ bt s (i + 3) ≤ 191)
        · rw [if_pos q, if_pos ⟨by omega, by omega, by omega, q⟩]
        · rw [if_neg q, if_neg (fun r => q r.2.2.2)]

theorem ref_at (s : ByteArray) (hs : s.size ≤ 281474976710656) (i : Nat) (h : i < s.size) (k : Nat) : trammelref1_Width.f (k + 10) s i = some (wd s i : Int) := by
  have hb := bt_range s i
  rw [wd_int]
  unfold trammelref1_Width.f
  rw [if_neg (by omega)]
  simp only [trammelref1_Width.j0]
  rw [if_neg (by simpa using h), if_pos (by omega), if_pos (by omega)]
  by_cases h1 : bt s i < 128
  · rw [if_pos h1]
    unfold wd5
    rw [if_neg (by omega), if_pos h1]
  · rw [if_neg h1]
    by_cases h2 : bt s i ≥ 194
    · rw [if_pos h2]
      simp only [trammelref1_Width.j1]
      by_cases h3 : bt s i ≤ 223
      · rw [if_pos (by simpa using h3), j4_is s hs i 2 128 191 (by omega) (by omega) h (k + 2)]
        unfold wd5
        repeat' split
        all_goals first | rfl | omega
      · rw [if_neg (by simpa using h3), if_pos (by omega)]
        simp only [trammelref1_Width.j2]
        by_cases h4 : bt s i ≤ 239
        · rw [if_pos (by simpa using h4)]
          by_cases q : bt s i = 224
          · rw [if_pos q, if_neg (by omega), j4_is s hs i 3 160 191 (by omega) (by omega) h (k + 1)]
            unfold wd5
            repeat' split
            all_goals first | rfl | omega
          · rw [if_neg q]
            by_cases q' : bt s i = 237
            · rw [if_pos q', j4_is s hs i 3 128 159 (by omega) (by omega) h (k + 1)]
              unfold wd5
              repeat' split
              all_goals first | rfl | omega
            · rw [if_neg q', j4_is s hs i 3 128 191 (by omega) (by omega) h (k + 1)]
              unfold wd5
              repeat' split
              all_goals first | rfl | omega
        · rw [if_neg (by simpa using h4), if_pos (by omega)]
          simp only [trammelref1_Width.j3]
          by_cases h5 : bt s i ≤ 244
          · rw [if_pos (by simpa using h5)]
            by_cases q : bt s i = 240
            · rw [if_pos q, if_neg (by omega), j4_is s hs i 4 144 191 (by omega) (by omega) h k]
              unfold wd5
              repeat' split
              all_goals first | rfl | omega
            · rw [if_neg q]
              by_cases q' : bt s i = 244
              · rw [if_pos q', j4_is s hs i 4 128 143 (by omega) (by omega) h k]
                unfold wd5
                repeat' split
                all_goals first | rfl | omega
              · rw [if_neg q', j4_is s hs i 4 128 191 (by omega) (by omega) h k]
                unfold wd5
                repeat' split
                all_goals first | rfl | omega
          · rw [if_neg (by simpa using h5)]
            unfold wd5
            rw [if_neg (by omega), if_neg (by omega), if_pos (by omega)]
    · rw [if_neg h2]
      have n1 : ¬ bt s i ≥ 224 := by omega
      have n2 : ¬ bt s i ≥ 240 := by omega
      simp only [trammelref1_Width.j1, trammelref1_Width.j2, trammelref1_Width.j3, n1, n2, if_false, Bool.false_eq_true]
      unfold wd5
      rw [if_neg (by omega), if_neg (by omega), if_pos (by omega)]

theorem ref_is (s : ByteArray) (hs : s.size ≤ 281474976710656) (at_ : Int) (k : Nat) : trammelref1_Width.f (k + 10) s at_ = some (if 0 ≤ at_ ∧ at_ < s.size then (wd s at_.toNat : Int) else 0) := by
  by_cases h : 0 ≤ at_ ∧ at_ < s.size
  · obtain ⟨i, rfl⟩ := Int.eq_ofNat_of_zero_le h.1
    rw [if_pos h, Int.toNat_natCast]
    exact ref_at s hs i (by omega) k
  · rw [if_neg h]
    unfold trammelref1_Width.f
    by_cases h0 : at_ < 0
    · rw [if_pos h0]
      rfl
    · rw [if_neg h0]
      have h1 : at_ ≥ (s.size : Int) := by omega
      simp [trammelref1_Width.j0, h1]

theorem ref_Valid (s : ByteArray) (hs : s.size ≤ 281474976710656) (i : Nat) : ∀ k, s.size - i + 11 ≤ k → trammelref1_Valid.l0 k s i = some (told (bad s i)) := by
  refine walk (s := s) (P := fun i => ∀ k, s.size - i + 11 ≤ k → trammelref1_Valid.l0 k s i = some (told (bad s i))) ?_ ?_ ?_ i
  · intro i h k hk
    obtain ⟨k, rfl⟩ : ∃ m, k = m + 1 := ⟨k - 1, by omega⟩
    simp only [trammelref1_Valid.l0]
    rw [if_neg (by omega), bad_end h]
    rfl
  · intro i h hw k hk
    obtain ⟨k, rfl⟩ : ∃ m, k = m + 11 := ⟨k - 11, by omega⟩
    simp only [trammelref1_Valid.l0]
    rw [if_pos (by omega), ref_at s hs i h k]
    simp only [Option.bind_some]
    rw [if_pos (by omega), bad_here h hw]
    rfl
  · intro i h hw ih k hk
    obtain ⟨k, rfl⟩ : ∃ m, k = m + 11 := ⟨k - 11, by omega⟩
    have k2 := wd_le s i h
    simp only [trammelref1_Valid.l0]
    rw [if_pos (by omega), ref_at s hs i h k]
    simp only [Option.bind_some]
    rw [if_neg (by omega), wrap_small (by omega) (by omega), bad_on h hw, show ((i : Int) + (wd s i : Nat)) = ((i + wd s i : Nat) : Int) from by omega]
    exact ih (k + 10) (by omega)


set_option maxHeartbeats 8000000 in
set_option maxRecDepth 100000 in
theorem walk_yes (k : Nat) (a0 : ByteArray) (a1 v z : Int) (b : Bool) (w : World) (A1 : Aside0 (source_Valid.f k a0 = some (v, b))) (A2 : Aside0 (trammelref1_Valid.f k a0 = some (v, b)))
    (A3 : Aside0 (source_Width.f k a0 a1 = some (z, 0))) (A4 : Aside0 (trammelref1_Width.f k a0 a1 = some z)) (A5 : Aside0 (trammellaw1_awake.f k = some true)) (hz : decide (0 < z) = true) :
    Calls Try.prog 3 #[.string a0, .int .i64 a1] w fun e w' => e = .returned (.bool true) ∧ Drawn0 w w' := by
  go_enter Try.func3, Try.ntmps3
  go_wp2_with (first | ((with_reducible refine gate_callee (f := 8) rfl ?_); refine goesL_ (some 14) rfl rfl Try.func8 (by kernel_rfl) rfl #[.string a0] rfl (by (try simp only [List.map_toArray, List.map_cons, List.map_nil]); first | done | rfl) ?_; (with_reducible refine (source_Valid.calls k a0 v b _ A1.out).mono ?_); rintro e w' ⟨rfl, ⟨nd, rfl⟩⟩; refine ⟨_, rfl, ?_⟩) | ((with_reducible refine gate_callee (f := 9) rfl ?_); refine goesL_ (some 19) rfl rfl Try.func9 (by kernel_rfl) rfl #[.string a0] rfl (by (try simp only [List.map_toArray, List.map_cons, List.map_nil]); first | done | rfl) ?_; (with_reducible refine (trammelref1_Valid.calls k a0 v b _ A2.out).mono ?_); rintro e w' ⟨rfl, ⟨nd, rfl⟩⟩; refine ⟨_, rfl, ?_⟩) | ((with_reducible refine gate_callee (f := 10) rfl ?_); refine goesL_ (some 25) rfl rfl Try.func10 (by kernel_rfl) rfl #[.string a0, .int .i64 a1] rfl (by (try simp only [List.map_toArray, List.map_cons, List.map_nil]); first | done | rfl) ?_; (with_reducible refine (source_Width.calls k a0 a1 z 0 _ A3.out).mono ?_); rintro e w' ⟨rfl, ⟨nd, rfl⟩⟩; refine ⟨_, rfl, ?_⟩) | ((with_reducible refine gate_callee (f := 11) rfl ?_); refine goesL_ (some 30) rfl rfl Try.func11 (by kernel_rfl) rfl #[.string a0, .int .i64 a1] rfl (by (try simp only [List.map_toArray, List.map_cons, List.map_nil]); first | done | rfl) ?_; (with_reducible refine (trammelref1_Width.calls k a0 a1 z _ A4.out).mono ?_); rintro e w' ⟨rfl, ⟨nd, rfl⟩⟩; refine ⟨_, rfl, ?_⟩) | (go_at_call 12; (with_reducible refine (trammellaw0_Num.calls 0 0 _ rfl).mono ?_); rintro e w' ⟨rfl, ⟨nd, rfl⟩⟩) | (go_at_call 13; (with_reducible refine (trammellaw1_awake.calls k true _ A5.out).mono ?_); rintro e w' ⟨rfl, ⟨nd, rfl⟩⟩))
  go_ret
  exact ⟨by first | rfl | (simp; done), by repeat (first | exact Drawn0.refl _ | apply Drawn0.step)⟩
set_option maxHeartbeats 8000000 in
set_option maxRecDepth 100000 in
theorem walk_no (k : Nat) (a0 : ByteArray) (a1 v z : Int) (b : Bool) (w : World) (A1 : Aside0 (source_Valid.f k a0 = some (v, b))) (A2 : Aside0 (trammelref1_Valid.f k a0 = some (v, b)))
    (A3 : Aside0 (source_Width.f k a0 a1 = some (z, 100))) (A4 : Aside0 (trammelref1_Width.f k a0 a1 = some z)) (A5 : Aside0 (trammellaw1_awake.f k = some true)) (hz : decide (0 < z) = false) :
    Calls Try.prog 3 #[.string a0, .int .i64 a1] w fun e w' => e = .returned (.bool true) ∧ Drawn0 w w' := by
  go_enter Try.func3, Try.ntmps3
  go_wp2_with (first | ((with_reducible refine gate_callee (f := 8) rfl ?_); refine goesL_ (some 14) rfl rfl Try.func8 (by kernel_rfl) rfl #[.string a0] rfl (by (try simp only [List.map_toArray, List.map_cons, List.map_nil]); first | done | rfl) ?_; (with_reducible refine (source_Valid.calls k a0 v b _ A1.out).mono ?_); rintro e w' ⟨rfl, ⟨nd, rfl⟩⟩; refine ⟨_, rfl, ?_⟩) | ((with_reducible refine gate_callee (f := 9) rfl ?_); refine goesL_ (some 19) rfl rfl Try.func9 (by kernel_rfl) rfl #[.string a0] rfl (by (try simp only [List.map_toArray, List.map_cons, List.map_nil]); first | done | rfl) ?_; (with_reducible refine (trammelref1_Valid.calls k a0 v b _ A2.out).mono ?_); rintro e w' ⟨rfl, ⟨nd, rfl⟩⟩; refine ⟨_, rfl, ?_⟩) | ((with_reducible refine gate_callee (f := 10) rfl ?_); refine goesL_ (some 25) rfl rfl Try.func10 (by kernel_rfl) rfl #[.string a0, .int .i64 a1] rfl (by (try simp only [List.map_toArray, List.map_cons, List.map_nil]); first | done | rfl) ?_; (with_reducible refine (source_Width.calls k a0 a1 z 100 _ A3.out).mono ?_); rintro e w' ⟨rfl, ⟨nd, rfl⟩⟩; refine ⟨_, rfl, ?_⟩) | ((with_reducible refine gate_callee (f := 11) rfl ?_); refine goesL_ (some 30) rfl rfl Try.func11 (by kernel_rfl) rfl #[.string a0, .int .i64 a1] rfl (by (try simp only [List.map_toArray, List.map_cons, List.map_nil]); first | done | rfl) ?_; (with_reducible refine (trammelref1_Width.calls k a0 a1 z _ A4.out).mono ?_); rintro e w' ⟨rfl, ⟨nd, rfl⟩⟩; refine ⟨_, rfl, ?_⟩) | (go_at_call 12; (with_reducible refine (trammellaw0_Num.calls 100 100 _ rfl).mono ?_); rintro e w' ⟨rfl, ⟨nd, rfl⟩⟩) | (go_at_call 13; (with_reducible refine (trammellaw1_awake.calls k true _ A5.out).mono ?_); rintro e w' ⟨rfl, ⟨nd, rfl⟩⟩))
  go_ret
  exact ⟨by first | rfl | (simp; done), by repeat (first | exact Drawn0.refl _ | apply Drawn0.step)⟩

theorem walk (s : ByteArray) (at_ : Int) (w : World) (hs0 : s.size ≤ 140737488351232) :
    Calls Try.prog 3 #[.string s, .int .i64 at_] w fun e w' => e = .returned (.bool true) ∧ Below w.heap.size w w' := by
  have hs : s.size ≤ 281474976710656 := by omega
  have h1 := Valid_is s hs (s.size + 50) (by omega)
  have h2 : trammelref1_Valid.f (s.size + 50) s = some (told (bad s 0)) := ref_Valid s hs 0 (s.size + 50) (by omega)
  have h3 := Width_is s at_ (s.size + 48)
  have h4 := ref_is s hs at_ (s.size + 40)
  have h5 := awake_at (s.size + 50) (by omega)
  by_cases h : 0 ≤ at_ ∧ at_ < s.size ∧ wd s at_.toNat ≠ 0
  · rw [if_pos h] at h3
    rw [if_pos ⟨h.1, h.2.1⟩] at h4
    exact (walk_yes (s.size + 50) s at_ _ _ _ w ⟨h1⟩ ⟨h2⟩ ⟨h3⟩ ⟨h4⟩ ⟨h5⟩ (by simp; omega)).mono fun e w' ⟨he, hd⟩ => ⟨he, hd.below⟩
  · rw [if_neg h] at h3
    by_cases q : 0 ≤ at_ ∧ at_ < s.size
    · have g : wd s at_.toNat = 0 := by
        by_cases g : wd s at_.toNat = 0
        · exact g
        · exact (h ⟨q.1, q.2, g⟩).elim
      rw [if_pos q, g] at h4
      exact (walk_no (s.size + 50) s at_ _ _ _ w ⟨h1⟩ ⟨h2⟩ ⟨h3⟩ ⟨h4⟩ ⟨h5⟩ (by simp)).mono fun e w' ⟨he, hd⟩ => ⟨he, hd.below⟩
    · rw [if_neg q] at h4
      exact (walk_no (s.size + 50) s at_ _ _ _ w ⟨h1⟩ ⟨h2⟩ ⟨h3⟩ ⟨h4⟩ ⟨h5⟩ (by simp)).mono fun e w' ⟨he, hd⟩ => ⟨he, hd.below⟩
end Go.Proofs.Ytppajbkfkhehdaa.Sourced
