/- SourceSigns: each sign is read by its number, and a surrogate is none. No condition. -/
import Derived.Test.YtppajbkfkhehdaaPSourceSignsx2
import Derived.Test.YtppajbkfkhehdaaSrc
import Derived.Test.YtppajbkfkhehdaaBits
set_option linter.unusedVariables false
set_option linter.unusedSimpArgs false
set_option maxHeartbeats 1000000
namespace Go.Proofs.Ytppajbkfkhehdaa.Pure
open Go.RowKit Go.Proofs.Ytppajbkfkhehdaa.PSourceSigns Go.Proofs.YtppajbkfkhehdaaW.PrintWords Go.Proofs.YtppajbkfkhehdaaW.PrintLast
open Go.Proofs.Ytppajbkfkhehdaa.Src
theorem lead_is (k : Nat) (b : Int) (hb : 0 ≤ b ∧ b ≤ 255) : ∃ lo hi, source_lead.f (k + 1) b = some (if b < 128 then 1 else if b < 194 ∨ 244 < b then 0 else if b < 224 then 2 else if b < 240 then 3 else 4, lo, hi) ∧
    (128 ≤ b → b ≤ 244 → 194 ≤ b → lo = (if b = 224 then 160 else if b = 240 then 144 else 128) ∧ hi = (if b = 237 then 159 else if b = 244 then 143 else 191)) := by
  unfold source_lead.f
  by_cases h1 : b < 128
  · rw [if_pos h1]
    exact ⟨0, 0, by simp [h1], fun h => by omega⟩
  · rw [if_neg h1]
    by_cases h2 : b < 194
    · rw [if_pos h2]
      exact ⟨0, 0, by simp [source_lead.j0, h1, h2], fun _ _ h => by omega⟩
    · rw [if_neg h2]
      by_cases h3 : 244 < b
      · exact ⟨0, 0, by simp [source_lead.j0, h1, h2, h3], fun _ h => by omega⟩
      · simp only [source_lead.j0, h1, h2, h3, decide_false, if_false, or_self, gt_iff_lt, Bool.false_eq_true]
        repeat' split
        all_goals first | omega | exact ⟨_, _, rfl, fun _ _ _ => ⟨by simp; try omega, by simp; try omega⟩⟩

theorem tail_is (b : Int) : source_tail.f b = some (decide (128 ≤ b ∧ b ≤ 191)) := by
  unfold source_tail.f
  by_cases h : b ≥ 128
  · rw [if_pos h]; congr 1; by_cases g : b ≤ 191 <;> simp <;> omega
  · rw [if_neg h]; congr 1; simp; omega

theorem width_is (k : Nat) (s : ByteArray) : source_width.f (k + 1) s = some (wd5 s.size (bt s 0) (bt s 1) (bt s 2) (bt s 3)) := by
  unfold source_width.f
  by_cases h0 : s.size = 0
  · rw [if_pos ((toList_size s).2 h0)]
    unfold wd5
    rw [if_pos (by omega)]
  · rw [if_neg (fun h => h0 ((toList_size s).1 h)), if_pos (by omega)]
    have hb := bt_range s 0
    obtain ⟨lo, hi, e, hl⟩ := lead_is k (bt s 0) hb
    rw [e]
    simp only [Option.bind_some, tail_is]
    generalize bt s 0 = b0 at *
    generalize bt s 1 = b1 at *
    generalize bt s 2 = b2 at *
    generalize bt s 3 = b3 at *
    generalize hn : (s.size : Int) = n at *
    have hn0 : 0 < n := by omega
    clear hn h0 e
    unfold wd5
    by_cases h1 : b0 < 128
    · simp only [h1, if_true]
      rw [if_neg (by omega), if_neg (by omega), if_neg (by omega), if_neg (by omega), if_neg (by omega)]
    · by_cases h2 : b0 < 194 ∨ 244 < b0
      · simp only [h1, h2, if_true, if_false]
        rw [if_neg (by omega), if_neg (by omega), if_neg (by omega), if_neg (by omega), if_neg (by omega)]
      · obtain ⟨rfl, rfl⟩ := hl (by omega) (by omega) (by omega)
        simp only [h1, h2, if_false]
        rw [if_neg (by omega : ¬ n ≤ 0)]
        by_cases h3 : b0 < 224
        · simp only [h3, if_true]
          rw [if_neg (by omega : ¬ b0 = 224), if_neg (by omega : ¬ b0 = 240), if_neg (by omega : ¬ b0 = 237), if_neg (by omega : ¬ b0 = 244)]
          by_cases g : 2 > n
          · rw [if_pos g, if_neg (by omega)]
          · simp only [if_neg g, show ((2 : Int) = 4) = False by decide, show ((2 : Int) = 3) = False by decide, eq_self_iff_true, if_true, if_false, if_pos (show 1 < n by omega)]
            repeat' split
            all_goals first | rfl | omega
        · by_cases h4 : b0 < 240
          · simp only [h3, h4, if_true, if_false]
            rw [if_neg (by omega : ¬ b0 = 240), if_neg (by omega : ¬ b0 = 244)]
            by_cases g : 3 > n
            · rw [if_pos g, if_neg (by omega)]
            · simp only [if_neg g, show ((3 : Int) = 4) = False by decide, eq_self_iff_true, if_true, if_false, if_pos (show 2 < n by omega), if_pos (show 1 < n by omega), decide_eq_true_eq]
              by_cases t2 : 128 ≤ b2 ∧ b2 ≤ 191
              · rw [if_pos t2]
                by_cases q : b0 = 224
                · have q' : ¬ b0 = 237 := by omega
                  simp only [q, q', if_true, if_false]
                  repeat' split
                  all_goals first | rfl | omega
                · by_cases q' : b0 = 237
                  · simp only [q, q', if_true, if_false]
                    repeat' split
                    all_goals first | rfl | omega
                  · simp only [q, q', if_false]
                    repeat' split
                    all_goals first | rfl | omega
              · rw [if_neg t2, if_neg (by omega)]
          · simp only [h3, h4, if_false]
            rw [if_neg (by omega : ¬ b0 = 224), if_neg (by omega : ¬ b0 = 237)]
            by_cases g : 4 > n
            · rw [if_pos g, if_neg (by omega)]
            · simp only [if_neg g, eq_self_iff_true, if_true, if_false, if_pos (show 3 < n by omega), if_pos (show 2 < n by omega), if_pos (show 1 < n by omega), decide_eq_true_eq]
              by_cases t3 : 128 ≤ b3 ∧ b3 ≤ 191
              · rw [if_pos t3]
                by_cases t2 : 128 ≤ b2 ∧ b2 ≤ 191
                · rw [if_pos t2]
                  by_cases q : b0 = 240
                  · have q' : ¬ b0 = 244 := by omega
                    simp only [q, q', if_true, if_false]
                    repeat' split
                    all_goals first | rfl | omega
                  · by_cases q' : b0 = 244
                    · simp only [q, q', if_true, if_false]
                      repeat' split
                      all_goals first | rfl | omega
                    · simp only [q, q', if_false]
                      repeat' split
                      all_goals first | rfl | omega
                · rw [if_neg t2, if_neg (by omega)]
              · rw [if_neg t3, if_neg (by omega)]

theorem wd5_out (n b0 b1 b2 b3 c1 c2 c3 : Int) (h1 : 1 < n → c1 = b1) (h2 : 2 < n → c2 = b2) (h3 : 3 < n → c3 = b3) : wd5 n b0 b1 b2 b3 = wd5 n b0 c1 c2 c3 := by
  by_cases g1 : 1 < n
  · have e1 := h1 g1
    by_cases g2 : 2 < n
    · have e2 := h2 g2
      by_cases g3 : 3 < n
      · rw [h3 g3, e1, e2]
      · subst e1; subst e2
        unfold wd5
        repeat' split
        all_goals omega
    · subst e1
      unfold wd5
      repeat' split
      all_goals omega
  · unfold wd5
    repeat' split
    all_goals omega

theorem width_at (k : Nat) (s : ByteArray) (i : Nat) (h : i < s.size) : source_width.f (k + 1) (s.extract i s.size) = some (wd s i : Int) := by
  have hz : (s.extract i s.size).size = s.size - i := by rw [ByteArray.size_extract]; omega
  rw [width_is, wd_int, hz, bt_extract s i s.size 0 (by omega) (by omega) (by omega), Int.add_zero, show (((s.size - i : Nat) : Int)) = (s.size : Int) - i from by omega]
  congr 1
  exact wd5_out _ _ _ _ _ _ _ _ (fun g => (bt_extract s i s.size 1 (by omega) (by omega) (by omega)).symm) (fun g => (bt_extract s i s.size 2 (by omega) (by omega) (by omega)).symm) (fun g => (bt_extract s i s.size 3 (by omega) (by omega) (by omega)).symm)

theorem wrap_small {x : Int} (h0 : 0 ≤ x) (h1 : x ≤ 562949953421312) : wrap64 x = x := by
  unfold wrap64
  omega

theorem Valid_loop (s : ByteArray) (hs : s.size ≤ 281474976710656) (i : Nat) : ∀ k, s.size - i + 2 ≤ k → source_Valid.l0 k s i = some (told (bad s i)) := by
  refine walk (s := s) (P := fun i => ∀ k, s.size - i + 2 ≤ k → source_Valid.l0 k s i = some (told (bad s i))) ?_ ?_ ?_ i
  · intro i h k hk
    obtain ⟨k, rfl⟩ : ∃ m, k = m + 1 := ⟨k - 1, by omega⟩
    simp only [source_Valid.l0]
    rw [if_neg (by omega), bad_end h]
    rfl
  · intro i h hw k hk
    obtain ⟨k, rfl⟩ : ∃ m, k = m + 2 := ⟨k - 2, by omega⟩
    simp only [source_Valid.l0]
    rw [if_pos (by omega), if_pos (by omega), if_pos (by omega), Int.toNat_natCast, width_at k s i h]
    simp only [Option.bind_some]
    rw [if_pos (by omega), bad_here h hw]
    rfl
  · intro i h hw ih k hk
    obtain ⟨k, rfl⟩ : ∃ m, k = m + 2 := ⟨k - 2, by omega⟩
    have k2 := wd_le s i h
    simp only [source_Valid.l0]
    rw [if_pos (by omega), if_pos (by omega), if_pos (by omega), Int.toNat_natCast, width_at k s i h]
    simp only [Option.bind_some]
    rw [if_neg (by omega), wrap_small (by omega) (by omega), bad_on h hw, show ((i : Int) + (wd s i : Nat)) = ((i + wd s i : Nat) : Int) from by omega]
    exact ih (k + 1) (by omega)

theorem Valid_is (s : ByteArray) (hs : s.size ≤ 281474976710656) (k : Nat) (hk : s.size + 2 ≤ k) : source_Valid.f k s = some (told (bad s 0)) := by
  unfold source_Valid.f
  exact Valid_loop s hs 0 k (by omega)

theorem Width_is (s : ByteArray) (at_ : Int) (k : Nat) : source_Width.f (k + 2) s at_ = some (if 0 ≤ at_ ∧ at_ < s.size ∧ wd s at_.toNat ≠ 0 then ((wd s at_.toNat : Int), 0) else (0, 100)) := by
  unfold source_Width.f
  by_cases h0 : at_ < 0
  · rw [if_pos h0, if_neg (by omega)]
    rfl
  · rw [if_neg h0]
    by_cases h1 : at_ ≥ s.size
    · rw [if_neg (by omega)]
      simp [source_Width.j0, h1]
    · obtain ⟨i, rfl⟩ := Int.eq_ofNat_of_zero_le (Int.not_lt.1 h0)
      have h : i < s.size := by omega
      simp only [source_Width.j0, Int.toNat_natCast]
      rw [if_neg (by simpa using h), if_pos (by omega), if_pos (by omega), width_at k s i h]
      simp only [Option.bind_some]
      by_cases hw : wd s i = 0
      · rw [if_pos (by omega), if_neg (by simp [hw])]
      · rw [if_neg (by omega), if_pos ⟨by omega, by omega, hw⟩]

theorem awake_is : trammellaw1_awake.f 20 = some true := by decide +kernel
theorem awake_at (k : Nat) (hk : 20 ≤ k) : trammellaw1_awake.f k = some true := at_rounds trammellaw1_awake.mono hk awake_is

theorem toNat_byte (y : Int) (h0 : 0 ≤ y) (h1 : y < 256) : ((UInt8.ofNat y.toNat).toNat : Int) = y := by
  obtain ⟨n, rfl⟩ := Int.eq_ofNat_of_zero_le h0
  have : n < 256 := by omega
  simp [Nat.mod_eq_of_lt this]

theorem bt_nums (xs : List Int) (i : Nat) (y : Int) (hi : xs[i]? = some y) (h0 : 0 ≤ y) (h1 : y < 256) : bt (strOfNums xs) i = y := by
  have hlt : i < xs.length := (List.getElem?_eq_some_iff.1 hi).1
  have hz : (strOfNums xs).size = xs.length := strOfNums_size xs
  rw [bt_get _ i (by omega)]
  have e : (strOfNums xs)[i]'(by omega) = UInt8.ofNat y.toNat := by
    show (strOfNums xs).data[i]'(by simpa [strOfNums] using hlt) = _
    simp only [strOfNums, List.getElem_toArray, List.getElem_map]
    rw [(List.getElem?_eq_some_iff.1 hi).2]
  rw [e]
  exact toNat_byte y h0 h1

theorem told_bad (s : ByteArray) (h : s.size ≤ 8) (h0 : 0 < s.size) (w : Nat) (hw : wd s 0 = w) (hz : w = s.size) : bad s 0 = none := by
  rw [bad_on h0 (by omega), Nat.zero_add, hw, hz]
  exact bad_end (Nat.le_refl _)

theorem j1_is (s : ByteArray) (w : Nat) (h1 : 1 ≤ w) (h4 : w ≤ 4) (hz : s.size = w) (hw : wd s 0 = w) (k : Nat) (hk : 50 ≤ k) : trammellaw1_SourceSigns.j1 (k + 1) s w = some true := by
  simp only [trammellaw1_SourceSigns.j1]
  have e : wrap64 ((w : Int) - 1) = ((w - 1 : Nat) : Int) := by rw [wrap_small (by omega) (by omega)]; omega
  obtain ⟨k, rfl⟩ : ∃ m, k = m + 2 := ⟨k - 2, by omega⟩
  have hz2 : (s.extract 0 (w - 1)).size = w - 1 := by rw [ByteArray.size_extract]; omega
  rw [e, Int.toNat_natCast, Valid_is s (by omega) _ (by omega), Width_is, Valid_is (s.extract 0 (w - 1)) (by omega) _ (by omega), told_bad s (by omega) (by omega) w hw hz.symm,
    if_pos (show (0 : Int) ≤ 0 ∧ 0 < (s.size : Int) ∧ wd s (0 : Int).toNat ≠ 0 from ⟨by omega, by omega, by rw [show (0 : Int).toNat = 0 from rfl, hw]; omega⟩), show (0 : Int).toNat = 0 from rfl, hw]
  simp only [Option.bind_some, told, if_true, trammellaw0_Num.f]
  rw [if_pos (by omega), if_pos (by omega)]
  by_cases g : w = 1
  · subst g
    rw [bad_end (by omega)]
    simp
  · have g2 : ((w : Int) > 1) = True := by simp; omega
    cases bad (s.extract 0 (w - 1)) 0 with
    | none => simp
    | some a => simp; omega

theorem SourceSigns : trammellaw1_SourceSigns.Pure := by
  intro x hx
  refine ⟨70, ?_⟩
  unfold trammellaw1_SourceSigns.f
  rw [awake_at _ (by omega), Option.bind_some, if_pos rfl, Bits.u64_mod x 1114112 (by decide) (by decide)]
  have hm := Int.emod_nonneg (x % 18446744073709551616) (b := 1114112) (by decide)
  have hm2 := Int.emod_lt_of_pos (x % 18446744073709551616) (b := 1114112) (by decide)
  generalize (x % 18446744073709551616) % 1114112 = c at *
  have b0 := Bits.and63 c
  have b1 := Bits.and63 (c / 64)
  have b2 := Bits.and63 (c / 4096)
  have b7 := Bits.and127 c
  have m0 := Int.emod_nonneg c (b := 64) (by decide)
  have m0' := Int.emod_lt_of_pos c (b := 64) (by decide)
  have m1 := Int.emod_nonneg (c / 64) (b := 64) (by decide)
  have m1' := Int.emod_lt_of_pos (c / 64) (b := 64) (by decide)
  have m2 := Int.emod_nonneg (c / 4096) (b := 64) (by decide)
  have m2' := Int.emod_lt_of_pos (c / 4096) (b := 64) (by decide)
  have sur : ∀ k, trammellaw1_SourceSigns.j0 (k + 60) c (decide (55296 ≤ c ∧ c < 57344)) = some true := by
    intro k
    simp only [trammellaw1_SourceSigns.j0, b0, b1, b2, b7]
    rw [Bits.or128 _ m0 m0', Bits.or128 _ m1 m1', Bits.or128 _ m2 m2']
    by_cases g : 55296 ≤ c ∧ c < 57344
    · rw [if_pos (by simpa using g)]
      generalize hs : strOfNums _ = s
      have hz : s.size = 3 := by rw [← hs, strOfNums_size]; rfl
      have g0 : bt s 0 = 237 := by rw [← hs]; exact bt_nums _ 0 237 rfl (by omega) (by omega)
      have g1 : bt s 1 = (128 + c / 64 % 64) % 256 := by rw [← hs]; exact bt_nums _ 1 _ rfl (by omega) (by omega)
      have hw : wd s 0 = 0 := by
        have := wd_int s 0
        simp only [Int.natCast_zero, Int.zero_add, Int.sub_zero] at this
        rw [g0, g1, hz] at this
        unfold wd5 at this
        rw [if_neg (by omega), if_neg (by omega), if_neg (by omega), if_neg (by omega), if_pos (by omega), if_neg (by omega)] at this
        omega
      rw [Valid_is s (by omega) _ (by omega), bad_here (by omega) hw]
      rfl
    · rw [if_neg (by simpa using g)]
      by_cases g4 : c ≥ 65536
      · rw [if_pos g4, Bits.or240 _ (by omega) (by omega)]
        generalize hs : strOfNums _ = s
        have hz : s.size = 4 := by rw [← hs, strOfNums_size]; rfl
        have g0 : bt s 0 = (240 + c / 262144) % 256 := by rw [← hs]; exact bt_nums _ 0 _ rfl (by omega) (by omega)
        have g1 : bt s 1 = (128 + c / 4096 % 64) % 256 := by rw [← hs]; exact bt_nums _ 1 _ rfl (by omega) (by omega)
        have g2 : bt s 2 = (128 + c / 64 % 64) % 256 := by rw [← hs]; exact bt_nums _ 2 _ rfl (by omega) (by omega)
        have g3 : bt s 3 = (128 + c % 64) % 256 := by rw [← hs]; exact bt_nums _ 3 _ rfl (by omega) (by omega)
        refine j1_is s 4 (by omega) (by omega) hz ?_ _ (by omega)
        have := wd_int s 0
        simp only [Int.natCast_zero, Int.zero_add, Int.sub_zero] at this
        rw [g0, g1, g2, g3, hz] at this
        unfold wd5 at this
        rw [if_neg (by omega), if_neg (by omega), if_neg (by omega), if_neg (by omega), if_neg (by omega), if_pos (by omega)] at this
        omega
      · rw [if_neg g4]
        by_cases g3 : c ≥ 2048
        · rw [if_pos g3, Bits.or224 _ (by omega) (by omega)]
          generalize hs : strOfNums _ = s
          have hz : s.size = 3 := by rw [← hs, strOfNums_size]; rfl
          have g0 : bt s 0 = (224 + c / 4096) % 256 := by rw [← hs]; exact bt_nums _ 0 _ rfl (by omega) (by omega)
          have g1 : bt s 1 = (128 + c / 64 % 64) % 256 := by rw [← hs]; exact bt_nums _ 1 _ rfl (by omega) (by omega)
          have g2 : bt s 2 = (128 + c % 64) % 256 := by rw [← hs]; exact bt_nums _ 2 _ rfl (by omega) (by omega)
          refine j1_is s 3 (by omega) (by omega) hz ?_ _ (by omega)
          have := wd_int s 0
          simp only [Int.natCast_zero, Int.zero_add, Int.sub_zero] at this
          rw [g0, g1, g2, hz] at this
          unfold wd5 at this
          rw [if_neg (by omega), if_neg (by omega), if_neg (by omega), if_neg (by omega), if_pos (by omega), if_pos (by omega)] at this
          omega
        · rw [if_neg g3]
          by_cases g2 : c ≥ 128
          · rw [if_pos g2, Bits.or192 _ (by omega) (by omega)]
            generalize hs : strOfNums _ = s
            have hz : s.size = 2 := by rw [← hs, strOfNums_size]; rfl
            have g0 : bt s 0 = (192 + c / 64) % 256 := by rw [← hs]; exact bt_nums _ 0 _ rfl (by omega) (by omega)
            have g1 : bt s 1 = (128 + c % 64) % 256 := by rw [← hs]; exact bt_nums _ 1 _ rfl (by omega) (by omega)
            refine j1_is s 2 (by omega) (by omega) hz ?_ _ (by omega)
            have := wd_int s 0
            simp only [Int.natCast_zero, Int.zero_add, Int.sub_zero] at this
            rw [g0, g1, hz] at this
            unfold wd5 at this
            rw [if_neg (by omega), if_neg (by omega), if_neg (by omega), if_pos (by omega), if_pos (by omega)] at this
            omega
          · rw [if_neg g2]
            generalize hs : strOfNums _ = s
            have hz : s.size = 1 := by rw [← hs, strOfNums_size]; rfl
            have g0 : bt s 0 = (c % 128) % 256 := by rw [← hs]; exact bt_nums _ 0 _ rfl (by omega) (by omega)
            refine j1_is s 1 (by omega) (by omega) hz ?_ _ (by omega)
            have := wd_int s 0
            simp only [Int.natCast_zero, Int.zero_add, Int.sub_zero] at this
            rw [g0, hz] at this
            unfold wd5 at this
            rw [if_neg (by omega), if_pos (by omega)] at this
            omega
  by_cases g : c ≥ 55296
  · rw [if_pos g]
    have := sur 10
    rw [show decide (55296 ≤ c ∧ c < 57344) = decide (c < 57344) from by simp; omega] at this
    exact this
  · rw [if_neg g]
    have := sur 10
    rw [show decide (55296 ≤ c ∧ c < 57344) = false from by simp; omega] at this
    exact this

end Go.Proofs.Ytppajbkfkhehdaa.Pure
