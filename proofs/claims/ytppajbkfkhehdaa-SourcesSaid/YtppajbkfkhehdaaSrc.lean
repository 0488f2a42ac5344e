/- Plain facts on texts in UTF-8: how many bytes a sign has, and where a text goes wrong. No program in sight. -/
import Derived.Test.YtppajbkfkhehdaaWWords
set_option linter.unusedVariables false
namespace Go.Proofs.Ytppajbkfkhehdaa.Src
open Go.RowKit Go.Proofs.YtppajbkfkhehdaaW.PrintWords

/-- The width out of how many bytes are left and the first four of them. -/
def wd5 (n b0 b1 b2 b3 : Int) : Int :=
  if n ≤ 0 then 0
  else if b0 < 128 then 1
  else if b0 < 194 ∨ 244 < b0 then 0
  else if b0 < 224 then (if 2 ≤ n ∧ 128 ≤ b1 ∧ b1 ≤ 191 then 2 else 0)
  else if b0 < 240 then (if 3 ≤ n ∧ (b0 ≠ 224 ∨ 160 ≤ b1) ∧ 128 ≤ b1 ∧ b1 ≤ 191 ∧ (b0 ≠ 237 ∨ b1 ≤ 159) ∧ 128 ≤ b2 ∧ b2 ≤ 191 then 3 else 0)
  else (if 4 ≤ n ∧ (b0 ≠ 240 ∨ 144 ≤ b1) ∧ 128 ≤ b1 ∧ b1 ≤ 191 ∧ (b0 ≠ 244 ∨ b1 ≤ 143) ∧ 128 ≤ b2 ∧ b2 ≤ 191 ∧ 128 ≤ b3 ∧ b3 ≤ 191 then 4 else 0)

theorem wd5_range (n b0 b1 b2 b3 : Int) : 0 ≤ wd5 n b0 b1 b2 b3 ∧ wd5 n b0 b1 b2 b3 ≤ 4 ∧ (0 < n → wd5 n b0 b1 b2 b3 ≤ n) := by
  unfold wd5
  repeat' split
  all_goals omega

/-- How many bytes the sign at a place has; 0: there is none. -/
def wd (s : ByteArray) (i : Nat) : Nat := (wd5 ((s.size : Int) - i) (bt s i) (bt s (i + 1)) (bt s (i + 2)) (bt s (i + 3))).toNat

theorem wd_int (s : ByteArray) (i : Nat) : ((wd s i : Nat) : Int) = wd5 ((s.size : Int) - i) (bt s i) (bt s (i + 1)) (bt s (i + 2)) (bt s (i + 3)) := by
  have := wd5_range ((s.size : Int) - i) (bt s i) (bt s (i + 1)) (bt s (i + 2)) (bt s (i + 3))
  unfold wd
  omega

theorem wd_le (s : ByteArray) (i : Nat) (h : i < s.size) : i + wd s i ≤ s.size ∧ wd s i ≤ 4 := by
  have := wd5_range ((s.size : Int) - i) (bt s i) (bt s (i + 1)) (bt s (i + 2)) (bt s (i + 3))
  have := wd_int s i
  omega

/-- Where a text goes wrong, from a place on. -/
def bad (s : ByteArray) (i : Nat) : Option Nat :=
  if h : i < s.size then
    if hw : wd s i = 0 then some i else bad s (i + wd s i)
  else none
termination_by s.size - i
decreasing_by omega

theorem bad_end {s : ByteArray} {i : Nat} (h : s.size ≤ i) : bad s i = none := by
  rw [bad, dif_neg (by omega)]
theorem bad_here {s : ByteArray} {i : Nat} (h : i < s.size) (hw : wd s i = 0) : bad s i = some i := by
  rw [bad, dif_pos h, dif_pos hw]
theorem bad_on {s : ByteArray} {i : Nat} (h : i < s.size) (hw : wd s i ≠ 0) : bad s i = bad s (i + wd s i) := by
  rw [bad, dif_pos h, dif_neg hw]

/-- Induction along a text's signs. -/
theorem walk {s : ByteArray} {P : Nat → Prop} (hend : ∀ i, s.size ≤ i → P i) (hbad : ∀ i, i < s.size → wd s i = 0 → P i)
    (hon : ∀ i, i < s.size → wd s i ≠ 0 → P (i + wd s i) → P i) (i : Nat) : P i := by
  by_cases h : i < s.size
  · by_cases hw : wd s i = 0
    · exact hbad i h hw
    · exact hon i h hw (walk hend hbad hon (i + wd s i))
  · exact hend i (by omega)
termination_by s.size - i
decreasing_by omega

theorem bad_some {s : ByteArray} (i : Nat) : ∀ a, bad s i = some a → i ≤ a ∧ a < s.size ∧ wd s a = 0 := by
  refine walk (s := s) (P := fun i => ∀ a, bad s i = some a → i ≤ a ∧ a < s.size ∧ wd s a = 0) ?_ ?_ ?_ i
  · intro i h a ha
    rw [bad_end h] at ha
    cases ha
  · intro i h hw a ha
    rw [bad_here h hw] at ha
    cases ha
    exact ⟨Nat.le_refl _, h, hw⟩
  · intro i h hw ih a ha
    rw [bad_on h hw] at ha
    have := ih a ha
    exact ⟨by omega, this.2⟩

theorem bt_out (s : ByteArray) (i : Int) (h : (s.size : Int) ≤ i) : bt s i = 0 := by
  unfold bt
  rw [dif_neg (by omega)]

theorem bt_get (s : ByteArray) (i : Nat) (h : i < s.size) : bt s i = (s[i].toNat : Int) := by
  unfold bt
  rw [dif_pos (by omega)]
  rfl

theorem bt_append_left (s t : ByteArray) (i : Int) (h0 : 0 ≤ i) (h : i < s.size) : bt (s ++ t) i = bt s i := by
  obtain ⟨j, rfl⟩ := Int.eq_ofNat_of_zero_le h0
  rw [bt_get s j (by omega), bt_get (s ++ t) j (by rw [ByteArray.size_append]; omega)]
  rw [ByteArray.getElem_append_left (by omega)]

theorem bt_append_right (s t : ByteArray) (i : Int) (h0 : 0 ≤ i) : bt (s ++ t) (s.size + i) = bt t i := by
  obtain ⟨j, rfl⟩ := Int.eq_ofNat_of_zero_le h0
  by_cases h : j < t.size
  · rw [bt_get t j h, show ((s.size : Int) + (j : Int)) = ((s.size + j : Nat) : Int) from by omega, bt_get (s ++ t) (s.size + j) (by rw [ByteArray.size_append]; omega)]
    rw [ByteArray.getElem_append_right (by omega)]
    simp
  · rw [bt_out t j (by omega), bt_out (s ++ t) _ (by rw [ByteArray.size_append]; omega)]

theorem bt_extract (s : ByteArray) (i e : Nat) (j : Int) (h0 : 0 ≤ j) (he : e ≤ s.size) (h : (i : Int) + j < e) : bt (s.extract i e) j = bt s (i + j) := by
  obtain ⟨m, rfl⟩ := Int.eq_ofNat_of_zero_le h0
  rw [show ((i : Int) + (m : Int)) = ((i + m : Nat) : Int) from by omega, bt_get s (i + m) (by omega), bt_get _ m (by rw [ByteArray.size_extract]; omega)]
  rw [ByteArray.getElem_extract]

theorem wd5_more {n m b0 b1 b2 b3 c1 c2 c3 : Int} (hn : 0 < n) (hm : n ≤ m) (h1 : 1 < n → c1 = b1) (h2 : 2 < n → c2 = b2) (h3 : 3 < n → c3 = b3) :
    (wd5 n b0 b1 b2 b3 ≠ 0 → wd5 m b0 c1 c2 c3 = wd5 n b0 b1 b2 b3) ∧ (wd5 n b0 b1 b2 b3 = 0 → wd5 m b0 c1 c2 c3 ≠ 0 → n < wd5 m b0 c1 c2 c3) := by
  by_cases g1 : 1 < n
  · have e1 := h1 g1
    by_cases g2 : 2 < n
    · have e2 := h2 g2
      by_cases g3 : 3 < n
      · have e3 := h3 g3
        subst e1; subst e2; subst e3
        unfold wd5
        repeat' split
        all_goals omega
      · subst e1; subst e2
        unfold wd5
        repeat' split
        all_goals omega
    · subst e1
      unfold wd5
      repeat' split
      all_goals omega
  · unfold wd5
    repeat' split
    all_goals omega

/-- What stands behind turns no sign that is there. -/
theorem wd_append (s t : ByteArray) (i : Nat) (h : i < s.size) : (wd s i ≠ 0 → wd (s ++ t) i = wd s i) ∧ (wd s i = 0 → wd (s ++ t) i ≠ 0 → s.size - i < wd (s ++ t) i) := by
  have hz : (s ++ t).size = s.size + t.size := ByteArray.size_append
  have e1 := wd_int s i
  have e2 := wd_int (s ++ t) i
  rw [bt_append_left s t i (by omega) (by omega)] at e2
  have k := wd5_more (n := (s.size : Int) - i) (m := ((s ++ t).size : Int) - i) (b0 := bt s i) (b1 := bt s (i + 1)) (b2 := bt s (i + 2)) (b3 := bt s (i + 3))
    (c1 := bt (s ++ t) (i + 1)) (c2 := bt (s ++ t) (i + 2)) (c3 := bt (s ++ t) (i + 3)) (by omega) (by omega)
    (fun g => bt_append_left s t _ (by omega) (by omega)) (fun g => bt_append_left s t _ (by omega) (by omega)) (fun g => bt_append_left s t _ (by omega) (by omega))
  omega

theorem wd_shift (s t : ByteArray) (i : Nat) : wd (s ++ t) (s.size + i) = wd t i := by
  have hz : (s ++ t).size = s.size + t.size := ByteArray.size_append
  unfold wd
  have h0 := bt_append_right s t i (by omega)
  have h1 := bt_append_right s t (i + 1) (by omega)
  have h2 := bt_append_right s t (i + 2) (by omega)
  have h3 := bt_append_right s t (i + 3) (by omega)
  rw [hz, show (((s.size + t.size : Nat) : Int) - ((s.size + i : Nat) : Int)) = (t.size : Int) - i from by omega, show (((s.size + i : Nat) : Int)) = (s.size : Int) + i from by omega]
  rw [h0, show ((s.size : Int) + i + 1) = s.size + (i + 1) from by omega, h1, show ((s.size : Int) + i + 2) = s.size + (i + 2) from by omega, h2,
    show ((s.size : Int) + i + 3) = s.size + (i + 3) from by omega, h3]

theorem bad_shift (s t : ByteArray) (i : Nat) : bad (s ++ t) (s.size + i) = (bad t i).map (s.size + ·) := by
  have hz : (s ++ t).size = s.size + t.size := ByteArray.size_append
  refine walk (s := t) (P := fun i => bad (s ++ t) (s.size + i) = (bad t i).map (s.size + ·)) ?_ ?_ ?_ i
  · intro i h
    rw [bad_end h, bad_end (by omega)]
    rfl
  · intro i h hw
    rw [bad_here h hw, bad_here (by omega) (by rw [wd_shift]; exact hw)]
    rfl
  · intro i h hw ih
    rw [bad_on h hw, bad_on (by omega) (by rw [wd_shift]; exact hw), wd_shift, Nat.add_assoc]
    exact ih

/-- Of two texts together, from a place in the first on. -/
theorem bad_append (s t : ByteArray) (i : Nat) : i ≤ s.size → (bad s i = none → bad (s ++ t) i = (bad t 0).map (s.size + ·)) ∧
    (∀ a, bad s i = some a → (bad (s ++ t) i = some a ∨ (s.size - a < 4 ∧ ∀ c, bad (s ++ t) i = some c → a ≤ c))) := by
  have hz : (s ++ t).size = s.size + t.size := ByteArray.size_append
  refine walk (s := s) (P := fun i => i ≤ s.size → (bad s i = none → bad (s ++ t) i = (bad t 0).map (s.size + ·)) ∧
    (∀ a, bad s i = some a → (bad (s ++ t) i = some a ∨ (s.size - a < 4 ∧ ∀ c, bad (s ++ t) i = some c → a ≤ c)))) ?_ ?_ ?_ i
  · intro i h hi
    obtain rfl : i = s.size := by omega
    refine ⟨fun _ => ?_, fun a ha => ?_⟩
    · exact bad_shift s t 0
    · rw [bad_end (Nat.le_refl _)] at ha
      cases ha
  · intro i h hw hi
    refine ⟨fun hn => ?_, fun a ha => ?_⟩
    · rw [bad_here h hw] at hn
      cases hn
    · rw [bad_here h hw] at ha
      cases ha
      by_cases hw' : wd (s ++ t) i = 0
      · exact .inl (bad_here (by omega) hw')
      · have k := (wd_append s t i h).2 hw hw'
        have k2 := wd_le (s ++ t) i (by omega)
        refine .inr ⟨by omega, fun c hc => ?_⟩
        exact (bad_some i c hc).1
  · intro i h hw ih hi
    have k := wd_le s i h
    have ih := ih (by omega)
    have e := (wd_append s t i h).1 hw
    rw [bad_on h hw, bad_on (s := s ++ t) (by omega) (by rw [e]; exact hw), e]
    exact ih

/-- The answer of 'Valid'. -/
def told (o : Option Nat) : Int × Bool := match o with
  | none => (0, true)
  | some a => ((a : Int), false)
theorem toList_size (s : ByteArray) : (s.toList = ([] : List UInt8)) ↔ s.size = 0 := by
  rw [ByteArray.toList_eq]
  constructor
  · intro h
    have := congrArg List.length h
    simpa using this
  · intro h
    have : s.data.toList.length = 0 := by simpa using h
    exact List.length_eq_zero_iff.1 this
end Go.Proofs.Ytppajbkfkhehdaa.Src
