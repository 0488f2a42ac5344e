/- Several texts in one: contracts of functions of the program, and what they lean on. In part written by a program of this session over the kit's print, in part by hand. -/
import Derived.Test.YtnogfhhfklkbiaaDoorL1
import Derived.Test.YtnogfhhfklkbiaaDoorWWords
import Derived.Test.YtnogfhhfklkbiaaDoorL0
set_option linter.unusedVariables false
set_option linter.unusedSimpArgs false
namespace Go.Proofs.YtnogfhhfklkbiaaDoor.H
open Go.RowKit Go.Proofs.YtnogfhhfklkbiaaDoorW.PrintWords Go.Proofs.YtnogfhhfklkbiaaDoorW.PrintLast Go.Proofs.YtnogfhhfklkbiaaDoorW.PrintMore

def isLet (b : UInt8) : Bool := decide (97 ≤ b.toNat) && decide (b.toNat ≤ 122)
def isDig (b : UInt8) : Bool := decide (48 ≤ b.toNat) && decide (b.toNat ≤ 57)
def isMore (b : UInt8) : Bool := isLet b || (isDig b || b == 95)
def lettersB : ByteArray := ⟨#[97, 98, 99, 100, 101, 102, 103, 104, 105, 106, 107, 108, 109, 110, 111, 112, 113, 114, 115, 116, 117, 118, 119, 120, 121, 122]⟩
def moreB : ByteArray := ⟨#[97, 98, 99, 100, 101, 102, 103, 104, 105, 106, 107, 108, 109, 110, 111, 112, 113, 114, 115, 116, 117, 118, 119, 120, 121, 122, 48, 49, 50, 51, 52, 53, 54, 55, 56, 57, 95]⟩
def digitsB : ByteArray := ⟨#[48, 49, 50, 51, 52, 53, 54, 55, 56, 57]⟩
def kwL : List (List UInt8) := [[102, 117, 110], [108, 101, 116], [114, 101, 99], [105, 110], [105, 102], [116, 104, 101, 110], [101, 108, 115, 101], [104, 97, 110, 100, 108, 101], [119, 105, 116, 104], [114, 101, 116, 117, 114, 110], [101, 110, 100], [100, 111], [111, 112], [116, 114, 117, 101], [102, 97, 108, 115, 101], [105, 110, 116], [98, 111, 111, 108]]
/-- A keyword. -/
def kw (l : List UInt8) : Bool := kwL.contains l
/-- What may be a name. -/
def nm (l : List UInt8) : Bool := match l with
  | [] => false
  | c :: r => decide (r.length < 16) && (isLet c && (r.all isMore && !kw (c :: r)))

theorem byte_all {P : UInt8 → Prop} (h : ∀ n : Fin 256, P (UInt8.ofNat n)) (c : UInt8) : P c := by
  have := h ⟨c.toNat, c.toNat_lt⟩
  simpa using this
theorem mem_letters (c : UInt8) : decide (c ∈ lettersB.data.toList) = isLet c := byte_all (P := fun c => decide (c ∈ lettersB.data.toList) = isLet c) (by decide +kernel) c
theorem mem_more (c : UInt8) : decide (c ∈ moreB.data.toList) = isMore c := byte_all (P := fun c => decide (c ∈ moreB.data.toList) = isMore c) (by decide +kernel) c
theorem mem_digits (c : UInt8) : decide (c ∈ digitsB.data.toList) = isDig c := byte_all (P := fun c => decide (c ∈ digitsB.data.toList) = isDig c) (by decide +kernel) c

theorem indexByte_mem (l : List UInt8) (c : UInt8) : 0 ≤ Lib.indexByte l c ↔ c ∈ l := by
  induction l with
  | nil => simp [Lib.indexByte]
  | cons b l ih =>
    have hge := Lib.indexByte_ge l c
    unfold Lib.indexByte
    by_cases h : b = c
    · subst h
      simp
    · have hb : (b == c) = false := by simpa using h
      simp only [hb, Bool.false_eq_true, if_false, List.mem_cons]
      by_cases h1 : Lib.indexByte l c = -1
      · have hn : c ∉ l := fun hm => by have := ih.2 hm; omega
        simp [h1, hn, Ne.symm h]
      · have hm : c ∈ l := ih.1 (by omega)
        have h2 : (Lib.indexByte l c == -1) = false := by simpa using h1
        simp only [h2, Bool.false_eq_true, if_false, hm, or_true, iff_true]
        omega
theorem of_is (c : UInt8) (some_ : ByteArray) : lex_of.f (c.toNat : Int) some_ = some (decide (c ∈ some_.data.toList)) := by
  unfold lex_of.f strings_IndexByte.f
  have hc : ((c.toNat : Int)).toNat.toUInt8 = c := by simp
  rw [hc]
  simp only [Option.bind_some, Option.some.injEq]
  by_cases h : c ∈ some_.data.toList
  · have := (indexByte_mem some_.data.toList c).2 h
    simp [h]
    omega
  · have : ¬ 0 ≤ Lib.indexByte some_.data.toList c := fun hh => h ((indexByte_mem _ _).1 hh)
    simp [h]
    omega
theorem wrapS {x : Int} (h0 : 0 ≤ x) (h1 : x ≤ 1152921504606846976) : wrap64 x = x := by
  unfold wrap64
  omega
theorem list_size (s : ByteArray) : s.data.toList.length = s.size := by rw [Array.length_toList]; rfl
theorem bt_list (s : ByteArray) (i : Nat) (c : UInt8) (h : s.data.toList[i]? = some c) : bt s (i : Int) = (c.toNat : Int) := by
  obtain ⟨hi, rfl⟩ := List.getElem?_eq_some_iff.1 h
  have hs : i < s.size := by rw [← list_size]; exact hi
  unfold bt
  rw [dif_pos (by omega)]
  simp
  rfl
/-- How far a run goes. -/
def runN (p : UInt8 → Bool) (l : List UInt8) : Nat := (l.takeWhile p).length
theorem run_loop (s x : ByteArray) (p : UInt8 → Bool) (hp : ∀ c, decide (c ∈ x.data.toList) = p c) (hs : s.size ≤ 1152921504606846976) : ∀ (d i k : Nat), s.size - i = d → i ≤ s.size → d < k →
    lex_run.l0 k s x (i : Int) = some (s.extract 0 (i + runN p (s.data.toList.drop i))) := by
  intro d
  induction d with
  | zero =>
    intro i k hd hi hk
    obtain ⟨k, rfl⟩ : ∃ m, k = m + 1 := ⟨k - 1, by omega⟩
    have : i = s.size := by omega
    subst this
    simp only [lex_run.l0]
    rw [if_neg (by omega), if_pos (by omega), if_pos (by omega), List.drop_eq_nil_of_le (by rw [list_size]; exact Nat.le_refl _)]
    simp [runN]
  | succ d ih =>
    intro i k hd hi hk
    obtain ⟨k, rfl⟩ : ∃ m, k = m + 1 := ⟨k - 1, by omega⟩
    have hlt : i < s.data.toList.length := by rw [list_size]; omega
    have hg : s.data.toList[i]? = some s.data.toList[i] := List.getElem?_eq_getElem hlt
    simp only [lex_run.l0]
    rw [if_pos (by omega), if_pos (by omega), bt_list s i _ hg, of_is, hp]
    rw [List.drop_eq_getElem_cons hlt]
    simp only [Option.bind_some]
    by_cases hc : p s.data.toList[i] = true
    · rw [if_pos hc, wrapS (by omega) (by omega), show ((i : Int) + 1) = ((i + 1 : Nat) : Int) from by omega, ih (i + 1) k (by omega) (by omega) (by omega)]
      simp only [runN, List.takeWhile_cons, hc, if_true, List.length_cons]
      congr 2
      omega
    · rw [if_neg hc, if_pos (by omega), Int.toNat_natCast]
      have h0 : runN p (s.data.toList[i] :: s.data.toList.drop (i + 1)) = 0 := by
        unfold runN
        rw [List.takeWhile_cons_of_neg hc]
        rfl
      rw [h0, Nat.add_zero]
theorem run_is (s x : ByteArray) (p : UInt8 → Bool) (hp : ∀ c, decide (c ∈ x.data.toList) = p c) (hs : s.size ≤ 1152921504606846976) (k : Nat) (hk : s.size < k) : lex_run.f k s x = some (s.extract 0 (runN p s.data.toList)) := by
  unfold lex_run.f
  have := run_loop s x p hp hs s.size 0 k rfl (Nat.zero_le _) hk
  simpa using this
theorem tw_all (p : UInt8 → Bool) : ∀ l : List UInt8, l.all p = true ↔ l.takeWhile p = l
  | [] => by simp
  | c :: l => by
    have ih := tw_all p l
    by_cases h : p c = true
    · rw [List.takeWhile_cons_of_pos h, List.all_cons, h, Bool.true_and, ih]
      simp
    · rw [List.takeWhile_cons_of_neg h, List.all_cons]
      simp [h]
theorem bytes_ext {a b : ByteArray} (h : a.data.toList = b.data.toList) : a = b := by
  cases a; cases b
  simp only at h
  rw [Array.toList_inj] at h
  rw [h]
theorem toList_data (s : ByteArray) : s.toList = s.data.toList := ByteArray.toList_eq s
theorem extract_list (s : ByteArray) (n : Nat) : (s.extract 0 n).data.toList = s.data.toList.take n := by
  simp
/-- The index of a text among texts, as the library's loop finds it. -/
theorem index_loop (ps : List ByteArray) (x : ByteArray) (hl : ps.length ≤ 1000000) : ∀ (d i k : Nat), ps.length - i = d → i ≤ ps.length → d < k →
    ∃ r, slices_Index_string_string.l0 k ps x (ps.length : Int) (i : Int) = some r ∧ (0 ≤ r ↔ x.data.toList ∈ (ps.drop i).map (·.data.toList)) := by
  intro d
  induction d with
  | zero =>
    intro i k hd hi hk
    obtain ⟨k, rfl⟩ : ∃ m, k = m + 1 := ⟨k - 1, by omega⟩
    refine ⟨-1, ?_, ?_⟩
    · simp only [slices_Index_string_string.l0]
      rw [if_neg (by omega)]
    · rw [List.drop_eq_nil_of_le (by omega)]
      simp
  | succ d ih =>
    intro i k hd hi hk
    obtain ⟨k, rfl⟩ : ∃ m, k = m + 1 := ⟨k - 1, by omega⟩
    have hlt : i < ps.length := by omega
    have hrd : rdOf ByteArray.empty ps (i : Int) = ps[i] := by
      unfold rdOf
      rw [Int.toNat_natCast, List.getD_eq_getElem?_getD, List.getElem?_eq_getElem hlt]
      rfl
    simp only [slices_Index_string_string.l0]
    rw [if_pos (by omega), if_pos (by omega), if_pos (by omega), hrd, toList_data, toList_data, List.drop_eq_getElem_cons hlt]
    by_cases h : x.data.toList = ps[i].data.toList
    · refine ⟨i, by rw [if_pos h], ?_⟩
      rw [List.map_cons, List.mem_cons]
      exact ⟨fun _ => .inl h, fun _ => by omega⟩
    · rw [if_neg h, wrapS (by omega) (by omega), show ((i : Int) + 1) = ((i + 1 : Nat) : Int) from by omega]
      obtain ⟨r, hr, hiff⟩ := ih (i + 1) k (by omega) (by omega) (by omega)
      refine ⟨r, hr, ?_⟩
      rw [hiff, List.map_cons, List.mem_cons]
      simp [h]
theorem contains_is (ps : List ByteArray) (x : ByteArray) (hl : ps.length ≤ 1000000) (k : Nat) (hk : ps.length < k) : slices_Contains_string_string.f k ps x = some (decide (x.data.toList ∈ ps.map (·.data.toList))) := by
  unfold slices_Contains_string_string.f slices_Index_string_string.f
  obtain ⟨r, hr, hiff⟩ := index_loop ps x hl ps.length 0 k rfl (Nat.zero_le _) hk
  rw [show ((0 : Nat) : Int) = 0 from rfl] at hr
  rw [hr]
  simp only [Option.bind_some, Option.some.injEq]
  rw [List.drop_zero] at hiff
  by_cases h : x.data.toList ∈ ps.map (·.data.toList)
  · have := hiff.2 h
    rw [decide_eq_true h]
    simp
    omega
  · have : ¬ 0 ≤ r := fun hh => h (hiff.1 hh)
    rw [decide_eq_false h]
    simp
    omega
def keywordsB : ByteArray := ⟨#[102, 117, 110, 32, 108, 101, 116, 32, 114, 101, 99, 32, 105, 110, 32, 105, 102, 32, 116, 104, 101, 110, 32, 101, 108, 115, 101, 32, 104, 97, 110, 100, 108, 101, 32, 119, 105, 116, 104, 32, 114, 101, 116, 117, 114, 110, 32, 101, 110, 100, 32, 100, 111, 32, 111, 112, 32, 116, 114, 117, 101, 32, 102, 97, 108, 115, 101, 32, 105, 110, 116, 32, 98, 111, 111, 108]⟩
theorem split_keywords : (strings_Split.f keywordsB ⟨#[32]⟩).map (fun ps => ps.map (·.data.toList)) = some kwL := by decide +kernel
theorem keyword_is (s : ByteArray) (k : Nat) (hk : 20 ≤ k) : lex_Keyword.f k s = some (kw s.data.toList) := by
  have h := split_keywords
  show (strings_Split.f keywordsB ⟨#[32]⟩).bind _ = _
  cases hp : strings_Split.f keywordsB ⟨#[32]⟩ with
  | none => rw [hp] at h; cases h
  | some ps =>
    rw [hp] at h
    have hps : ps.map (·.data.toList) = kwL := Option.some.inj h
    have hlen : ps.length = 17 := by
      have := congrArg List.length hps
      simpa [kwL] using this
    simp only [Option.bind_some]
    rw [contains_is ps s (by omega) k (by omega), hps]
    simp only [Option.bind_some, kw, List.contains_eq_mem]
theorem nameMay_is (s : ByteArray) (k : Nat) (hk : 40 ≤ k) : lex_NameMay.f k s = some (nm s.data.toList) := by
  unfold lex_NameMay.f
  have hsz := list_size s
  rw [toList_data]
  by_cases h0 : s.data.toList = []
  · rw [if_pos h0, h0]
    rfl
  · rw [if_neg h0]
    obtain ⟨c, r, hcr⟩ := List.exists_cons_of_ne_nil h0
    have hlen : r.length + 1 = s.size := by rw [← hsz, hcr]; rfl
    by_cases h1 : (s.size : Int) ≤ 16
    · rw [if_pos h1, if_pos (by omega)]
      have hb : bt s 0 = (c.toNat : Int) := bt_list s 0 c (by rw [hcr]; rfl)
      rw [hb]
      rw [show (⟨#[97, 98, 99, 100, 101, 102, 103, 104, 105, 106, 107, 108, 109, 110, 111, 112, 113, 114, 115, 116, 117, 118, 119, 120, 121, 122]⟩ : ByteArray) = lettersB from rfl, of_is, mem_letters]
      simp only [Option.bind_some]
      by_cases h2 : isLet c = true
      · rw [if_pos h2]
        rw [show (⟨#[97, 98, 99, 100, 101, 102, 103, 104, 105, 106, 107, 108, 109, 110, 111, 112, 113, 114, 115, 116, 117, 118, 119, 120, 121, 122, 48, 49, 50, 51, 52, 53, 54, 55, 56, 57, 95]⟩ : ByteArray) = moreB from rfl, run_is s moreB isMore mem_more (by omega) k (by omega)]
        simp only [Option.bind_some]
        rw [toList_data, extract_list, keyword_is s k (by omega)]
        have hm : isMore c = true := by simp [isMore, h2]
        by_cases h3 : r.all isMore = true
        · have ht : s.data.toList.take (runN isMore s.data.toList) = s.data.toList := by
            have : (c :: r).all isMore = true := by simp only [List.all_cons, hm, h3, Bool.and_self]
            rw [hcr, runN, (tw_all isMore _).1 this, List.take_length]
          rw [if_pos ht]
          simp only [Option.bind_some]
          rw [hcr]
          simp [nm, h2, h3, show r.length < 16 by omega]
        · have ht : ¬ s.data.toList.take (runN isMore s.data.toList) = s.data.toList := by
            intro he
            apply h3
            have hl := congrArg List.length he
            rw [List.length_take, hcr] at hl
            have hle : runN isMore (c :: r) ≤ (c :: r).length := (List.takeWhile_prefix isMore).length_le
            have hfull : runN isMore (c :: r) = (c :: r).length := by omega
            have : (c :: r).takeWhile isMore = c :: r := (List.takeWhile_prefix isMore).eq_of_length hfull
            have h4 := (tw_all isMore _).2 this
            rw [List.all_cons, hm, Bool.true_and] at h4
            exact h4
          rw [if_neg ht, hcr]
          simp [nm, h3]
      · rw [if_neg h2, hcr]
        simp [nm, h2]
    · rw [if_neg h1, hcr]
      simp [nm, show ¬ r.length < 16 by omega]
end Go.Proofs.YtnogfhhfklkbiaaDoor.H

set_option linter.unusedVariables false
namespace Go.Proofs.YtnogfhhfklkbiaaDoor.Src
open Go.RowKit Go.Proofs.YtnogfhhfklkbiaaDoorW.PrintWords

/-- The width out of how many bytes are left and the first four of them. -/
def wd5 (n b0 b1 b2 b3 : Int) : Int :=
  if n ≤ 0 then 0
  else if b0 < 128 then 1
  else if b0 < 194 ∨ 244 < b0 then 0
  else if b0 < 224 then (if 2 ≤ n ∧ 128 ≤ b1 ∧ b1 ≤ 191 then 2 else 0)
  else if b0 < 240 then (if 3 ≤ n ∧ (b0 ≠ 224 ∨ 160 ≤ b1) ∧ 128 ≤ b1 ∧ b1 ≤ 191 ∧ (b0 ≠ 237 ∨ b1 ≤ 159) ∧ 128 ≤ b2 ∧ b2 ≤ 191 then 3 else 0)
  else (if 4 ≤ n ∧ (b0 ≠ 240 ∨ 144 ≤ b1) ∧ 128 ≤ b1 ∧ b1 ≤ 191 ∧ (b0 ≠ 244 ∨ b1 ≤ 143) ∧ 128 ≤ b2 ∧ b2 ≤ 191 ∧ 128 ≤ b3 ∧ b3 ≤ 191 then 4 else 0)

theorem wd5_range (n b0 b1 b2 b3 : Int) : 0 ≤ wd5 n b0 b1 b2 b3 ∧ wd5 n b0 b1 b2 b3 ≤ 4 ∧ (0 < n → wd5 n b0 b1 b2 b3 ≤ n) := by
  unfold wd5
  repeat' split
  all_goals omega

/-- How many bytes the sign at a place has; 0: there is none. -/
def wd (s : ByteArray) (i : Nat) : Nat := (wd5 ((s.size : Int) - i) (bt s i) (bt s (i + 1)) (bt s (i + 2)) (bt s (i + 3))).toNat

theorem wd_int (s : ByteArray) (i : Nat) : ((wd s i : Nat) : Int) = wd5 ((s.size : Int) - i) (bt s i) (bt s (i + 1)) (bt s (i + 2)) (bt s (i + 3)) := by
  have := wd5_range ((s.size : Int) - i) (bt s i) (bt s (i + 1)) (bt s (i + 2)) (bt s (i + 3))
  unfold wd
  omega

theorem wd_le (s : ByteArray) (i : Nat) (h : i < s.size) : i + wd s i ≤ s.size ∧ wd s i ≤ 4 := by
  have := wd5_range ((s.size : Int) - i) (bt s i) (bt s (i + 1)) (bt s (i + 2)) (bt s (i + 3))
  have := wd_int s i
  omega

/-- Where a text goes wrong, from a place on. -/
def bad (s : ByteArray) (i : Nat) : Option Nat :=
  if h : i < s.size then
    if hw : wd s i = 0 then some i else bad s (i + wd s i)
  else none
termination_by s.size - i
decreasing_by omega

theorem bad_end {s : ByteArray} {i : Nat} (h : s.size ≤ i) : bad s i = none := by
  rw [bad, dif_neg (by omega)]
theorem bad_here {s : ByteArray} {i : Nat} (h : i < s.size) (hw : wd s i = 0) : bad s i = some i := by
  rw [bad, dif_pos h, dif_pos hw]
theorem bad_on {s : ByteArray} {i : Nat} (h : i < s.size) (hw : wd s i ≠ 0) : bad s i = bad s (i + wd s i) := by
  rw [bad, dif_pos h, dif_neg hw]

/-- Induction along a text's signs. -/
theorem walk {s : ByteArray} {P : Nat → Prop} (hend : ∀ i, s.size ≤ i → P i) (hbad : ∀ i, i < s.size → wd s i = 0 → P i)
    (hon : ∀ i, i < s.size → wd s i ≠ 0 → P (i + wd s i) → P i) (i : Nat) : P i := by
  by_cases h : i < s.size
  · by_cases hw : wd s i = 0
    · exact hbad i h hw
    · exact hon i h hw (walk hend hbad hon (i + wd s i))
  · exact hend i (by omega)
termination_by s.size - i
decreasing_by omega

theorem bad_some {s : ByteArray} (i : Nat) : ∀ a, bad s i = some a → i ≤ a ∧ a < s.size ∧ wd s a = 0 := by
  refine walk (s := s) (P := fun i => ∀ a, bad s i = some a → i ≤ a ∧ a < s.size ∧ wd s a = 0) ?_ ?_ ?_ i
  · intro i h a ha
    rw [bad_end h] at ha
    cases ha
  · intro i h hw a ha
    rw [bad_here h hw] at ha
    cases ha
    exact ⟨Nat.le_refl _, h, hw⟩
  · intro i h hw ih a ha
    rw [bad_on h hw] at ha
    have := ih a ha
    exact ⟨by omega, this.2⟩

theorem bt_out (s : ByteArray) (i : Int) (h : (s.size : Int) ≤ i) : bt s i = 0 := by
  unfold bt
  rw [dif_neg (by omega)]

theorem bt_get (s : ByteArray) (i : Nat) (h : i < s.size) : bt s i = (s[i].toNat : Int) := by
  unfold bt
  rw [dif_pos (by omega)]
  rfl

theorem bt_append_left (s t : ByteArray) (i : Int) (h0 : 0 ≤ i) (h : i < s.size) : bt (s ++ t) i = bt s i := by
  obtain ⟨j, rfl⟩ := Int.eq_ofNat_of_zero_le h0
  rw [bt_get s j (by omega), bt_get (s ++ t) j (by rw [ByteArray.size_append]; omega)]
  rw [ByteArray.getElem_append_left (by omega)]

theorem bt_append_right (s t : ByteArray) (i : Int) (h0 : 0 ≤ i) : bt (s ++ t) (s.size + i) = bt t i := by
  obtain ⟨j, rfl⟩ := Int.eq_ofNat_of_zero_le h0
  by_cases h : j < t.size
  · rw [bt_get t j h, show ((s.size : Int) + (j : Int)) = ((s.size + j : Nat) : Int) from by omega, bt_get (s ++ t) (s.size + j) (by rw [ByteArray.size_append]; omega)]
    rw [ByteArray.getElem_append_right (by omega)]
    simp
  · rw [bt_out t j (by omega), bt_out (s ++ t) _ (by rw [ByteArray.size_append]; omega)]

theorem bt_extract (s : ByteArray) (i e : Nat) (j : Int) (h0 : 0 ≤ j) (he : e ≤ s.size) (h : (i : Int) + j < e) : bt (s.extract i e) j = bt s (i + j) := by
  obtain ⟨m, rfl⟩ := Int.eq_ofNat_of_zero_le h0
  rw [show ((i : Int) + (m : Int)) = ((i + m : Nat) : Int) from by omega, bt_get s (i + m) (by omega), bt_get _ m (by rw [ByteArray.size_extract]; omega)]
  rw [ByteArray.getElem_extract]

theorem wd5_more {n m b0 b1 b2 b3 c1 c2 c3 : Int} (hn : 0 < n) (hm : n ≤ m) (h1 : 1 < n → c1 = b1) (h2 : 2 < n → c2 = b2) (h3 : 3 < n → c3 = b3) :
    (wd5 n b0 b1 b2 b3 ≠ 0 → wd5 m b0 c1 c2 c3 = wd5 n b0 b1 b2 b3) ∧ (wd5 n b0 b1 b2 b3 = 0 → wd5 m b0 c1 c2 c3 ≠ 0 → n < wd5 m b0 c1 c2 c3) := by
  by_cases g1 : 1 < n
  · have e1 := h1 g1
    by_cases g2 : 2 < n
    · have e2 := h2 g2
      by_cases g3 : 3 < n
      · have e3 := h3 g3
        subst e1; subst e2; subst e3
        unfold wd5
        repeat' split
        all_goals omega
      · subst e1; subst e2
        unfold wd5
        repeat' split
        all_goals omega
    · subst e1
      unfold wd5
      repeat' split
      all_goals omega
  · unfold wd5
    repeat' split
    all_goals omega

/-- What stands behind turns no sign that is there. -/
theorem wd_append (s t : ByteArray) (i : Nat) (h : i < s.size) : (wd s i ≠ 0 → wd (s ++ t) i = wd s i) ∧ (wd s i = 0 → wd (s ++ t) i ≠ 0 → s.size - i < wd (s ++ t) i) := by
  have hz : (s ++ t).size = s.size + t.size := ByteArray.size_append
  have e1 := wd_int s i
  have e2 := wd_int (s ++ t) i
  rw [bt_append_left s t i (by omega) (by omega)] at e2
  have k := wd5_more (n := (s.size : Int) - i) (m := ((s ++ t).size : Int) - i) (b0 := bt s i) (b1 := bt s (i + 1)) (b2 := bt s (i + 2)) (b3 := bt s (i + 3))
    (c1 := bt (s ++ t) (i + 1)) (c2 := bt (s ++ t) (i + 2)) (c3 := bt (s ++ t) (i + 3)) (by omega) (by omega)
    (fun g => bt_append_left s t _ (by omega) (by omega)) (fun g => bt_append_left s t _ (by omega) (by omega)) (fun g => bt_append_left s t _ (by omega) (by omega))
  omega

theorem wd_shift (s t : ByteArray) (i : Nat) : wd (s ++ t) (s.size + i) = wd t i := by
  have hz : (s ++ t).size = s.size + t.size := ByteArray.size_append
  unfold wd
  have h0 := bt_append_right s t i (by omega)
  have h1 := bt_append_right s t (i + 1) (by omega)
  have h2 := bt_append_right s t (i + 2) (by omega)
  have h3 := bt_append_right s t (i + 3) (by omega)
  rw [hz, show (((s.size + t.size : Nat) : Int) - ((s.size + i : Nat) : Int)) = (t.size : Int) - i from by omega, show (((s.size + i : Nat) : Int)) = (s.size : Int) + i from by omega]
  rw [h0, show ((s.size : Int) + i + 1) = s.size + (i + 1) from by omega, h1, show ((s.size : Int) + i + 2) = s.size + (i + 2) from by omega, h2,
    show ((s.size : Int) + i + 3) = s.size + (i + 3) from by omega, h3]

theorem bad_shift (s t : ByteArray) (i : Nat) : bad (s ++ t) (s.size + i) = (bad t i).map (s.size + ·) := by
  have hz : (s ++ t).size = s.size + t.size := ByteArray.size_append
  refine walk (s := t) (P := fun i => bad (s ++ t) (s.size + i) = (bad t i).map (s.size + ·)) ?_ ?_ ?_ i
  · intro i h
    rw [bad_end h, bad_end (by omega)]
    rfl
  · intro i h hw
    rw [bad_here h hw, bad_here (by omega) (by rw [wd_shift]; exact hw)]
    rfl
  · intro i h hw ih
    rw [bad_on h hw, bad_on (by omega) (by rw [wd_shift]; exact hw), wd_shift, Nat.add_assoc]
    exact ih

/-- Of two texts together, from a place in the first on. -/
theorem bad_append (s t : ByteArray) (i : Nat) : i ≤ s.size → (bad s i = none → bad (s ++ t) i = (bad t 0).map (s.size + ·)) ∧
    (∀ a, bad s i = some a → (bad (s ++ t) i = some a ∨ (s.size - a < 4 ∧ ∀ c, bad (s ++ t) i = some c → a ≤ c))) := by
  have hz : (s ++ t).size = s.size + t.size := ByteArray.size_append
  refine walk (s := s) (P := fun i => i ≤ s.size → (bad s i = none → bad (s ++ t) i = (bad t 0).map (s.size + ·)) ∧
    (∀ a, bad s i = some a → (bad (s ++ t) i = some a ∨ (s.size - a < 4 ∧ ∀ c, bad (s ++ t) i = some c → a ≤ c)))) ?_ ?_ ?_ i
  · intro i h hi
    obtain rfl : i = s.size := by omega
    refine ⟨fun _ => ?_, fun a ha => ?_⟩
    · exact bad_shift s t 0
    · rw [bad_end (Nat.le_refl _)] at ha
      cases ha
  · intro i h hw hi
    refine ⟨fun hn => ?_, fun a ha => ?_⟩
    · rw [bad_here h hw] at hn
      cases hn
    · rw [bad_here h hw] at ha
      cases ha
      by_cases hw' : wd (s ++ t) i = 0
      · exact .inl (bad_here (by omega) hw')
      · have k := (wd_append s t i h).2 hw hw'
        have k2 := wd_le (s ++ t) i (by omega)
        refine .inr ⟨by omega, fun c hc => ?_⟩
        exact (bad_some i c hc).1
  · intro i h hw ih hi
    have k := wd_le s i h
    have ih := ih (by omega)
    have e := (wd_append s t i h).1 hw
    rw [bad_on h hw, bad_on (s := s ++ t) (by omega) (by rw [e]; exact hw), e]
    exact ih

/-- The answer of 'Valid'. -/
def told (o : Option Nat) : Int × Bool := match o with
  | none => (0, true)
  | some a => ((a : Int), false)
theorem toList_size (s : ByteArray) : (s.toList = ([] : List UInt8)) ↔ s.size = 0 := by
  rw [ByteArray.toList_eq]
  constructor
  · intro h
    have := congrArg List.length h
    simpa using this
  · intro h
    have : s.data.toList.length = 0 := by simpa using h
    exact List.length_eq_zero_iff.1 this
end Go.Proofs.YtnogfhhfklkbiaaDoor.Src

namespace Go.Proofs.YtnogfhhfklkbiaaDoor.H
open Go.RowKit Go.Proofs.YtnogfhhfklkbiaaDoorW.PrintWords Go.Proofs.YtnogfhhfklkbiaaDoorW.PrintLast Go.Proofs.YtnogfhhfklkbiaaDoorW.PrintMore
attribute [local go_sem] max2_int min2_int max_two min_two max_three min_three max_four min_four   -- for this text's walks alone
set_option linter.unusedVariables false
set_option linter.unusedSimpArgs false

/-! ### trammelref1_Width: function 82 -/
mutual
def trammelref1_Width.j0 : Nat → ByteArray → Int → Bool → Option (Int)
  | 0, _, _, _ => none
  | k + 1, x0, x1, x17 => if x17 = true then (some 0) else (if 0 ≤ x1 then (if x1 < (x0.size : Int) then (if (bt x0 x1) < 128 then (some 1) else (if (bt x0 x1) ≥ 194 then (trammelref1_Width.j1 k x0 x1 (bt x0 x1) 128 191 (decide ((bt x0 x1) ≤ 223))) else (trammelref1_Width.j1 k x0 x1 (bt x0 x1) 128 191 false))) else (none)) else (none))
def trammelref1_Width.j4 : Nat → ByteArray → Int → Int → Int → Int → Option (Int)
  | 0, _, _, _, _, _ => none
  | k + 1, x0, x1, x6, x7, x8 => if (wrap64 (x1 + x6)) > (x0.size : Int) then (trammelref1_Width.j5 k x0 x1 x6 true) else (if 0 ≤ (wrap64 (x1 + 1)) then (if (wrap64 (x1 + 1)) < (x0.size : Int) then (if (bt x0 (wrap64 (x1 + 1))) < x7 then (trammelref1_Width.j5 k x0 x1 x6 true) else (trammelref1_Width.j5 k x0 x1 x6 (decide ((bt x0 (wrap64 (x1 + 1))) > x8)))) else (none)) else (none))
def trammelref1_Width.j5 : Nat → ByteArray → Int → Int → Bool → Option (Int)
  | 0, _, _, _, _ => none
  | k + 1, x0, x1, x6, x74 => if x74 = true then (some 0) else (trammelref1_Width.l0 k x0 x1 x6 2)
def trammelref1_Width.l0 : Nat → ByteArray → Int → Int → Int → Option (Int)
  | 0, _, _, _, _ => none
  | k + 1, x0, x1, x6, x9 => if x9 < x6 then (if 0 ≤ (wrap64 (x1 + x9)) then (if (wrap64 (x1 + x9)) < (x0.size : Int) then (if (bt x0 (wrap64 (x1 + x9))) < 128 then (some 0) else (if (bt x0 (wrap64 (x1 + x9))) > 191 then (some 0) else (trammelref1_Width.l0 k x0 x1 x6 (wrap64 (x9 + 1))))) else (none)) else (none)) else (some x6)
def trammelref1_Width.j1 : Nat → ByteArray → Int → Int → Int → Int → Bool → Option (Int)
  | 0, _, _, _, _, _, _ => none
  | k + 1, x0, x1, x5, x7, x8, x24 => if x24 = true then (trammelref1_Width.j4 k x0 x1 2 x7 x8) else (if x5 ≥ 224 then (trammelref1_Width.j2 k x0 x1 x5 x7 x8 (decide (x5 ≤ 239))) else (trammelref1_Width.j2 k x0 x1 x5 x7 x8 false))
def trammelref1_Width.j2 : Nat → ByteArray → Int → Int → Int → Int → Bool → Option (Int)
  | 0, _, _, _, _, _, _ => none
  | k + 1, x0, x1, x5, x7, x8, x31 => if x31 = true then (if x5 = 224 then (if x5 = 237 then (trammelref1_Width.j4 k x0 x1 3 160 159) else (trammelref1_Width.j4 k x0 x1 3 160 x8)) else (if x5 = 237 then (trammelref1_Width.j4 k x0 x1 3 x7 159) else (trammelref1_Width.j4 k x0 x1 3 x7 x8))) else (if x5 ≥ 240 then (trammelref1_Width.j3 k x0 x1 x5 x7 x8 (decide (x5 ≤ 244))) else (trammelref1_Width.j3 k x0 x1 x5 x7 x8 false))
def trammelref1_Width.j3 : Nat → ByteArray → Int → Int → Int → Int → Bool → Option (Int)
  | 0, _, _, _, _, _, _ => none
  | k + 1, x0, x1, x5, x7, x8, x42 => if x42 = true then (if x5 = 240 then (if x5 = 244 then (trammelref1_Width.j4 k x0 x1 4 144 143) else (trammelref1_Width.j4 k x0 x1 4 144 x8)) else (if x5 = 244 then (trammelref1_Width.j4 k x0 x1 4 x7 143) else (trammelref1_Width.j4 k x0 x1 4 x7 x8))) else (some 0)
end
def trammelref1_Width.f (k : Nat) (a0 : ByteArray) (a1 : Int) : Option (Int) := if a1 < 0 then (trammelref1_Width.j0 k a0 a1 true) else (trammelref1_Width.j0 k a0 a1 (decide (a1 ≥ (a0.size : Int))))
theorem trammelref1_Width.mono_l : ∀ k, (∀ y0 y1 y2, LeO (trammelref1_Width.j0 k y0 y1 y2) (trammelref1_Width.j0 (k + 1) y0 y1 y2)) ∧ (∀ y0 y1 y2 y3 y4, LeO (trammelref1_Width.j4 k y0 y1 y2 y3 y4) (trammelref1_Width.j4 (k + 1) y0 y1 y2 y3 y4)) ∧ (∀ y0 y1 y2 y3, LeO (trammelref1_Width.j5 k y0 y1 y2 y3) (trammelref1_Width.j5 (k + 1) y0 y1 y2 y3)) ∧ (∀ y0 y1 y2 y3, LeO (trammelref1_Width.l0 k y0 y1 y2 y3) (trammelref1_Width.l0 (k + 1) y0 y1 y2 y3)) ∧ (∀ y0 y1 y2 y3 y4 y5, LeO (trammelref1_Width.j1 k y0 y1 y2 y3 y4 y5) (trammelref1_Width.j1 (k + 1) y0 y1 y2 y3 y4 y5)) ∧ (∀ y0 y1 y2 y3 y4 y5, LeO (trammelref1_Width.j2 k y0 y1 y2 y3 y4 y5) (trammelref1_Width.j2 (k + 1) y0 y1 y2 y3 y4 y5)) ∧ (∀ y0 y1 y2 y3 y4 y5, LeO (trammelref1_Width.j3 k y0 y1 y2 y3 y4 y5) (trammelref1_Width.j3 (k + 1) y0 y1 y2 y3 y4 y5))
  | 0 => ⟨fun _ _ _ r h => by simp [trammelref1_Width.j0] at h, fun _ _ _ _ _ r h => by simp [trammelref1_Width.j4] at h, fun _ _ _ _ r h => by simp [trammelref1_Width.j5] at h, fun _ _ _ _ r h => by simp [trammelref1_Width.l0] at h, fun _ _ _ _ _ _ r h => by simp [trammelref1_Width.j1] at h, fun _ _ _ _ _ _ r h => by simp [trammelref1_Width.j2] at h, fun _ _ _ _ _ _ r h => by simp [trammelref1_Width.j3] at h⟩
  | k + 1 => by
    obtain ⟨ih0, ih1, ih2, ih3, ih4, ih5, ih6⟩ := trammelref1_Width.mono_l k
    refine ⟨?_, ?_, ?_, ?_, ?_, ?_, ?_⟩
    · intro y0 y1 y2
      unfold trammelref1_Width.j0
      repeat' first
      | (with_reducible exact ih0 _ _ _)
      | (with_reducible exact ih1 _ _ _ _ _)
      | (with_reducible exact ih2 _ _ _ _)
      | (with_reducible exact ih3 _ _ _ _)
      | (with_reducible exact ih4 _ _ _ _ _ _)
      | (with_reducible exact ih5 _ _ _ _ _ _)
      | (with_reducible exact ih6 _ _ _ _ _ _)
      | (with_reducible exact LeO.refl _)
      | (with_reducible exact LeO.none _)
      | (with_reducible refine LeO.ite ?_ ?_)
      | (with_reducible refine LeO.bind ?_ (fun _ => ?_))
      | exact ih0 _ _ _
      | exact ih1 _ _ _ _ _
      | exact ih2 _ _ _ _
      | exact ih3 _ _ _ _
      | exact ih4 _ _ _ _ _ _
      | exact ih5 _ _ _ _ _ _
      | exact ih6 _ _ _ _ _ _
      | exact LeO.none _
      | refine LeO.ite ?_ ?_
      | refine LeO.bind ?_ (fun _ => ?_)
    · intro y0 y1 y2 y3 y4
      unfold trammelref1_Width.j4
      repeat' first
      | (with_reducible exact ih0 _ _ _)
      | (with_reducible exact ih1 _ _ _ _ _)
      | (with_reducible exact ih2 _ _ _ _)
      | (with_reducible exact ih3 _ _ _ _)
      | (with_reducible exact ih4 _ _ _ _ _ _)
      | (with_reducible exact ih5 _ _ _ _ _ _)
      | (with_reducible exact ih6 _ _ _ _ _ _)
      | (with_reducible exact LeO.refl _)
      | (with_reducible exact LeO.none _)
      | (with_reducible refine LeO.ite ?_ ?_)
      | (with_reducible refine LeO.bind ?_ (fun _ => ?_))
      | exact ih0 _ _ _
      | exact ih1 _ _ _ _ _
      | exact ih2 _ _ _ _
      | exact ih3 _ _ _ _
      | exact ih4 _ _ _ _ _ _
      | exact ih5 _ _ _ _ _ _
      | exact ih6 _ _ _ _ _ _
      | exact LeO.none _
      | refine LeO.ite ?_ ?_
      | refine LeO.bind ?_ (fun _ => ?_)
    · intro y0 y1 y2 y3
      unfold trammelref1_Width.j5
      repeat' first
      | (with_reducible exact ih0 _ _ _)
      | (with_reducible exact ih1 _ _ _ _ _)
      | (with_reducible exact ih2 _ _ _ _)
      | (with_reducible exact ih3 _ _ _ _)
      | (with_reducible exact ih4 _ _ _ _ _ _)
      | (with_reducible exact ih5 _ _ _ _ _ _)
      | (with_reducible exact ih6 _ _ _ _ _ _)
      | (with_reducible exact LeO.refl _)
      | (with_reducible exact LeO.none _)
      | (with_reducible refine LeO.ite ?_ ?_)
      | (with_reducible refine LeO.bind ?_ (fun _ => ?_))
      | exact ih0 _ _ _
      | exact ih1 _ _ _ _ _
      | exact ih2 _ _ _ _
      | exact ih3 _ _ _ _
      | exact ih4 _ _ _ _ _ _
      | exact ih5 _ _ _ _ _ _
      | exact ih6 _ _ _ _ _ _
      | exact LeO.none _
      | refine LeO.ite ?_ ?_
      | refine LeO.bind ?_ (fun _ => ?_)
    · intro y0 y1 y2 y3
      unfold trammelref1_Width.l0
      repeat' first
      | (with_reducible exact ih0 _ _ _)
      | (with_reducible exact ih1 _ _ _ _ _)
      | (with_reducible exact ih2 _ _ _ _)
      | (with_reducible exact ih3 _ _ _ _)
      | (with_reducible exact ih4 _ _ _ _ _ _)
      | (with_reducible exact ih5 _ _ _ _ _ _)
      | (with_reducible exact ih6 _ _ _ _ _ _)
      | (with_reducible exact LeO.refl _)
      | (with_reducible exact LeO.none _)
      | (with_reducible refine LeO.ite ?_ ?_)
      | (with_reducible refine LeO.bind ?_ (fun _ => ?_))
      | exact ih0 _ _ _
      | exact ih1 _ _ _ _ _
      | exact ih2 _ _ _ _
      | exact ih3 _ _ _ _
      | exact ih4 _ _ _ _ _ _
      | exact ih5 _ _ _ _ _ _
      | exact ih6 _ _ _ _ _ _
      | exact LeO.none _
      | refine LeO.ite ?_ ?_
      | refine LeO.bind ?_ (fun _ => ?_)
    · intro y0 y1 y2 y3 y4 y5
      unfold trammelref1_Width.j1
      repeat' first
      | (with_reducible exact ih0 _ _ _)
      | (with_reducible exact ih1 _ _ _ _ _)
      | (with_reducible exact ih2 _ _ _ _)
      | (with_reducible exact ih3 _ _ _ _)
      | (with_reducible exact ih4 _ _ _ _ _ _)
      | (with_reducible exact ih5 _ _ _ _ _ _)
      | (with_reducible exact ih6 _ _ _ _ _ _)
      | (with_reducible exact LeO.refl _)
      | (with_reducible exact LeO.none _)
      | (with_reducible refine LeO.ite ?_ ?_)
      | (with_reducible refine LeO.bind ?_ (fun _ => ?_))
      | exact ih0 _ _ _
      | exact ih1 _ _ _ _ _
      | exact ih2 _ _ _ _
      | exact ih3 _ _ _ _
      | exact ih4 _ _ _ _ _ _
      | exact ih5 _ _ _ _ _ _
      | exact ih6 _ _ _ _ _ _
      | exact LeO.none _
      | refine LeO.ite ?_ ?_
      | refine LeO.bind ?_ (fun _ => ?_)
    · intro y0 y1 y2 y3 y4 y5
      unfold trammelref1_Width.j2
      repeat' first
      | (with_reducible exact ih0 _ _ _)
      | (with_reducible exact ih1 _ _ _ _ _)
      | (with_reducible exact ih2 _ _ _ _)
      | (with_reducible exact ih3 _ _ _ _)
      | (with_reducible exact ih4 _ _ _ _ _ _)
      | (with_reducible exact ih5 _ _ _ _ _ _)
      | (with_reducible exact ih6 _ _ _ _ _ _)
      | (with_reducible exact LeO.refl _)
      | (with_reducible exact LeO.none _)
      | (with_reducible refine LeO.ite ?_ ?_)
      | (with_reducible refine LeO.bind ?_ (fun _ => ?_))
      | exact ih0 _ _ _
      | exact ih1 _ _ _ _ _
      | exact ih2 _ _ _ _
      | exact ih3 _ _ _ _
      | exact ih4 _ _ _ _ _ _
      | exact ih5 _ _ _ _ _ _
      | exact ih6 _ _ _ _ _ _
      | exact LeO.none _
      | refine LeO.ite ?_ ?_
      | refine LeO.bind ?_ (fun _ => ?_)
    · intro y0 y1 y2 y3 y4 y5
      unfold trammelref1_Width.j3
      repeat' first
      | (with_reducible exact ih0 _ _ _)
      | (with_reducible exact ih1 _ _ _ _ _)
      | (with_reducible exact ih2 _ _ _ _)
      | (with_reducible exact ih3 _ _ _ _)
      | (with_reducible exact ih4 _ _ _ _ _ _)
      | (with_reducible exact ih5 _ _ _ _ _ _)
      | (with_reducible exact ih6 _ _ _ _ _ _)
      | (with_reducible exact LeO.refl _)
      | (with_reducible exact LeO.none _)
      | (with_reducible refine LeO.ite ?_ ?_)
      | (with_reducible refine LeO.bind ?_ (fun _ => ?_))
      | exact ih0 _ _ _
      | exact ih1 _ _ _ _ _
      | exact ih2 _ _ _ _
      | exact ih3 _ _ _ _
      | exact ih4 _ _ _ _ _ _
      | exact ih5 _ _ _ _ _ _
      | exact ih6 _ _ _ _ _ _
      | exact LeO.none _
      | refine LeO.ite ?_ ?_
      | refine LeO.bind ?_ (fun _ => ?_)
theorem trammelref1_Width.mono : ∀ a0 a1 k, LeO (trammelref1_Width.f k a0 a1) (trammelref1_Width.f (k + 1) a0 a1) := by
  intro a0 a1 k
  obtain ⟨ih0, ih1, ih2, ih3, ih4, ih5, ih6⟩ := trammelref1_Width.mono_l k
  unfold trammelref1_Width.f
  repeat' first
      | (with_reducible exact ih0 _ _ _)
      | (with_reducible exact ih1 _ _ _ _ _)
      | (with_reducible exact ih2 _ _ _ _)
      | (with_reducible exact ih3 _ _ _ _)
      | (with_reducible exact ih4 _ _ _ _ _ _)
      | (with_reducible exact ih5 _ _ _ _ _ _)
      | (with_reducible exact ih6 _ _ _ _ _ _)
      | (with_reducible exact LeO.refl _)
      | (with_reducible exact LeO.none _)
      | (with_reducible refine LeO.ite ?_ ?_)
      | (with_reducible refine LeO.bind ?_ (fun _ => ?_))
      | exact ih0 _ _ _
      | exact ih1 _ _ _ _ _
      | exact ih2 _ _ _ _
      | exact ih3 _ _ _ _
      | exact ih4 _ _ _ _ _ _
      | exact ih5 _ _ _ _ _ _
      | exact ih6 _ _ _ _ _ _
      | exact LeO.none _
      | refine LeO.ite ?_ ?_
      | refine LeO.bind ?_ (fun _ => ?_)
set_option maxHeartbeats 8000000 in
set_option maxRecDepth 100000 in
theorem trammelref1_Width.calls (k : Nat) (a0 : ByteArray) (a1 : Int) (r : Int) (w : World) (h : trammelref1_Width.f k a0 a1 = some r) :
    Calls Tryd.prog 82 #[.string a0, .int .i64 a1] w fun e w' => e = .returned (.int .i64 r) ∧ Drawn0 w w' := by
  have H : (if a1 < 0 then (trammelref1_Width.j0 k a0 a1 true) else (trammelref1_Width.j0 k a0 a1 (decide (a1 ≥ (a0.size : Int))))) = some r := h
  clear h
  have HC3 := Aside0.mk H
  clear H
  go_enter Tryd.func82, Tryd.ntmps82
  go_upto_region 1 with (fail)
  go_cut [17] (fun v17 wc => ∃ (kq : Nat) (x17_2 : Bool), v17 = .bool x17_2 ∧ Aside0 (trammelref1_Width.j0 kq a0 a1 x17_2 = some r) ∧ Aside0 (kq ≤ k) ∧ Drawn0 w wc)
  case first =>
    have H := HC3.out
    clear HC3
    by_cases c4 : a1 < 0
    · rw [if_pos c4] at H
      have c4b0 : decide (a1 < 0) = true := decide_eq_true c4
      clear c4
      (first | rw [c4b0] | (simp only [i64_w, i32_w]; rw [c4b0]) | skip)
      have H' := Aside0.mk H
      clear H
      go_wp2
      go_meet
      case rel => exact ⟨_, (true), (by first | rfl | (simp; done) | (simp [*]; done)), H', ⟨by first | omega | exact Nat.le_refl _⟩, by repeat (first | exact Drawn0.refl _ | apply Drawn0.step)⟩
    · rw [if_neg c4] at H
      have c4b0 : decide (a1 < 0) = false := decide_eq_false c4
      clear c4
      (first | rw [c4b0] | (simp only [i64_w, i32_w]; rw [c4b0]) | skip)
      have H' := Aside0.mk H
      clear H
      go_wp2
      go_meet
      case rel => exact ⟨_, (decide (a1 ≥ (a0.size : Int))), (by first | rfl | (simp; done) | (simp [*]; done)), H', ⟨by first | omega | exact Nat.le_refl _⟩, by repeat (first | exact Drawn0.refl _ | apply Drawn0.step)⟩
  case rest =>
    clear HC3
    try clear p2
    try clear c4
    try clear c4b0
    obtain ⟨kq, x17_2, rfl, HA, HJ2, ⟨mc2, rfl⟩⟩ := hcut
    cases kq with
    | zero => exact absurd HA.out (by simp [trammelref1_Width.j0])
    | succ kj2 =>
      have H := HA.out
      clear HA
      simp only [trammelref1_Width.j0] at H
      by_cases c5 : x17_2 = true
      · subst c5
        have H1 : (some 0) = some r := by rw [if_pos rfl] at H; exact H
        clear H
        have H := H1
        clear H1
        obtain rfl := Option.some.inj H
        go_wp2
        go_ret
        exact ⟨by first | rfl | (simp; done) | (simp [*]; done), by repeat (first | exact Drawn0.refl _ | apply Drawn0.step)⟩
      · replace c5 := Bool.eq_false_iff.mpr c5
        subst c5
        have H1 : (if 0 ≤ a1 then (if a1 < (a0.size : Int) then (if (bt a0 a1) < 128 then (some 1) else (if (bt a0 a1) ≥ 194 then (trammelref1_Width.j1 kj2 a0 a1 (bt a0 a1) 128 191 (decide ((bt a0 a1) ≤ 223))) else (trammelref1_Width.j1 kj2 a0 a1 (bt a0 a1) 128 191 false))) else (none)) else (none)) = some r := by rw [if_neg (show ¬ (false = true) by decide)] at H; exact H
        clear H
        have H := H1
        clear H1
        by_cases c6 : 0 ≤ a1
        · rw [if_pos c6] at H
          have c6b0 : decide (0 ≤ a1) = true := decide_eq_true c6
          clear c6
          by_cases c7 : a1 < (a0.size : Int)
          · rw [if_pos c7] at H
            have c7b0 : decide (a1 < (a0.size : Int)) = true := decide_eq_true c7
            clear c7
            have HC9 := Aside0.mk H
            clear H
            have p8 : 0 ≤ (a1 : Int) := of_decide_eq_true (by first | (with_reducible assumption) | assumption)
            have q8 : a1 < (a0.size : Int) := of_decide_eq_true (by first | (with_reducible assumption) | assumption)
            have hx8 := bt_at a0 a1
            replace p8 := eq_true p8
            replace q8 := eq_true q8
            go_upto_block 0 with (fail)
            go_cut [6, 7, 8] (fun v6 v7 v8 wc => ∃ (kq : Nat) (x6_8 : Int) (x7_8 : Int) (x8_8 : Int), v6 = .int .i64 x6_8 ∧ v7 = .int .u8 x7_8 ∧ v8 = .int .u8 x8_8 ∧ Aside0 (trammelref1_Width.j4 kq a0 a1 x6_8 x7_8 x8_8 = some r) ∧ Aside0 (kq ≤ kj2) ∧ Drawn0 w wc)
            case first =>
              have H := HC9.out
              clear HC9
              by_cases c10 : (bt a0 a1) < 128
              · rw [if_pos c10] at H
                have c10b0 : decide ((bt a0 a1) < 128) = true := decide_eq_true c10
                clear c10
                (first | rw [c10b0] | (simp only [i64_w, i32_w]; rw [c10b0]) | skip)
                obtain rfl := Option.some.inj H
                go_wp2
                go_ret
                exact ⟨by first | rfl | (simp; done) | (simp [*]; done), by repeat (first | exact Drawn0.refl _ | apply Drawn0.step)⟩
              · rw [if_neg c10] at H
                have c10b0 : decide ((bt a0 a1) < 128) = false := decide_eq_false c10
                clear c10
                (first | rw [c10b0] | (simp only [i64_w, i32_w]; rw [c10b0]) | skip)
                have HC11 := Aside0.mk H
                clear H
                go_upto_region 8 with (fail)
                go_cut [24] (fun v24 wc => ∃ (kq : Nat) (x24_10 : Bool), v24 = .bool x24_10 ∧ Aside0 (trammelref1_Width.j1 kq a0 a1 (bt a0 a1) 128 191 x24_10 = some r) ∧ Aside0 (kq ≤ kj2) ∧ Drawn0 w wc)
                case first =>
                  have H := HC11.out
                  clear HC11
                  by_cases c12 : (bt a0 a1) ≥ 194
                  · rw [if_pos c12] at H
                    have c12b0 : decide (194 ≤ (bt a0 a1)) = true := decide_eq_true c12
                    clear c12
                    (first | rw [c12b0] | (simp only [i64_w, i32_w]; rw [c12b0]) | skip)
                    have H' := Aside0.mk H
                    clear H
                    go_wp2
                    go_meet
                    case rel => exact ⟨_, (decide ((bt a0 a1) ≤ 223)), (by first | rfl | (simp; done) | (simp [*]; done)), H', ⟨by have := HJ2.out; first | omega | exact Nat.le_refl _⟩, by repeat (first | exact Drawn0.refl _ | apply Drawn0.step)⟩
                  · rw [if_neg c12] at H
                    have c12b0 : decide (194 ≤ (bt a0 a1)) = false := decide_eq_false c12
                    clear c12
                    (first | rw [c12b0] | (simp only [i64_w, i32_w]; rw [c12b0]) | skip)
                    have H' := Aside0.mk H
                    clear H
                    go_wp2
                    go_meet
                    case rel => exact ⟨_, (false), (by first | rfl | (simp; done) | (simp [*]; done)), H', ⟨by have := HJ2.out; first | omega | exact Nat.le_refl _⟩, by repeat (first | exact Drawn0.refl _ | apply Drawn0.step)⟩
                case rest =>
                  clear HC11
                  try clear c1
                  try clear c2
                  try clear p2
                  try clear c4
                  try clear c4b0
                  try clear c5
                  try clear c6
                  try clear c6b0
                  try clear c7
                  try clear c7b0
                  try clear c8
                  try clear p8
                  try clear q8
                  try clear hx8
                  try clear c10
                  try clear c10b0
                  try clear c12
                  try clear c12b0
                  try clear p2
                  try clear p8
                  try clear q8
                  obtain ⟨kq, x24_10, rfl, HA, HJ10, ⟨mc10, rfl⟩⟩ := hcut
                  cases kq with
                  | zero => exact absurd HA.out (by simp [trammelref1_Width.j1])
                  | succ kj10 =>
                    have H := HA.out
                    clear HA
                    simp only [trammelref1_Width.j1] at H
                    by_cases c13 : x24_10 = true
                    · subst c13
                      have H1 : (trammelref1_Width.j4 kj10 a0 a1 2 128 191) = some r := by rw [if_pos rfl] at H; exact H
                      clear H
                      have H := H1
                      clear H1
                      have H' := Aside0.mk H
                      clear H
                      go_wp2
                      go_meet
                      case rel => exact ⟨_, (2), (128), (191), (by first | rfl | (simp; done) | (simp [*]; done)), (by first | rfl | (simp; done) | (simp [*]; done)), (by first | rfl | (simp; done) | (simp [*]; done)), H', ⟨by have := HJ2.out; have := HJ10.out; first | omega | exact Nat.le_refl _⟩, by repeat (first | exact Drawn0.refl _ | apply Drawn0.step)⟩
                    · replace c13 := Bool.eq_false_iff.mpr c13
                      subst c13
                      have H1 : (if (bt a0 a1) ≥ 224 then (trammelref1_Width.j2 kj10 a0 a1 (bt a0 a1) 128 191 (decide ((bt a0 a1) ≤ 239))) else (trammelref1_Width.j2 kj10 a0 a1 (bt a0 a1) 128 191 false)) = some r := by rw [if_neg (show ¬ (false = true) by decide)] at H; exact H
                      clear H
                      have H := H1
                      clear H1
                      have HC14 := Aside0.mk H
                      clear H
                      go_upto_region 10 with (fail)
                      go_cut [31] (fun v31 wc => ∃ (kq : Nat) (x31_13 : Bool), v31 = .bool x31_13 ∧ Aside0 (trammelref1_Width.j2 kq a0 a1 (bt a0 a1) 128 191 x31_13 = some r) ∧ Aside0 (kq ≤ kj10) ∧ Drawn0 w wc)
                      case first =>
                        have H := HC14.out
                        clear HC14
                        by_cases c15 : (bt a0 a1) ≥ 224
                        · rw [if_pos c15] at H
                          have c15b0 : decide (224 ≤ (bt a0 a1)) = true := decide_eq_true c15
                          clear c15
                          (first | rw [c15b0] | (simp only [i64_w, i32_w]; rw [c15b0]) | skip)
                          have H' := Aside0.mk H
                          clear H
                          go_wp2
                          go_meet
                          case rel => exact ⟨_, (decide ((bt a0 a1) ≤ 239)), (by first | rfl | (simp; done) | (simp [*]; done)), H', ⟨by have := HJ2.out; have := HJ10.out; first | omega | exact Nat.le_refl _⟩, by repeat (first | exact Drawn0.refl _ | apply Drawn0.step)⟩
                        · rw [if_neg c15] at H
                          have c15b0 : decide (224 ≤ (bt a0 a1)) = false := decide_eq_false c15
                          clear c15
                          (first | rw [c15b0] | (simp only [i64_w, i32_w]; rw [c15b0]) | skip)
                          have H' := Aside0.mk H
                          clear H
                          go_wp2
                          go_meet
                          case rel => exact ⟨_, (false), (by first | rfl | (simp; done) | (simp [*]; done)), H', ⟨by have := HJ2.out; have := HJ10.out; first | omega | exact Nat.le_refl _⟩, by repeat (first | exact Drawn0.refl _ | apply Drawn0.step)⟩
                      case rest =>
                        clear HC14
                        try clear c1
                        try clear c2
                        try clear p2
                        try clear c4
                        try clear c4b0
                        try clear c5
                        try clear c6
                        try clear c6b0
                        try clear c7
                        try clear c7b0
                        try clear c8
                        try clear p8
                        try clear q8
                        try clear hx8
                        try clear c10
                        try clear c10b0
                        try clear c12
                        try clear c12b0
                        try clear c13
                        try clear c15
                        try clear c15b0
                        try clear p2
                        try clear p8
                        try clear q8
                        obtain ⟨kq, x31_13, rfl, HA, HJ13, ⟨mc13, rfl⟩⟩ := hcut
                        cases kq with
                        | zero => exact absurd HA.out (by simp [trammelref1_Width.j2])
                        | succ kj13 =>
                          have H := HA.out
                          clear HA
                          simp only [trammelref1_Width.j2] at H
                          by_cases c16 : x31_13 = true
                          · subst c16
                            have H1 : (if (bt a0 a1) = 224 then (if (bt a0 a1) = 237 then (trammelref1_Width.j4 kj13 a0 a1 3 160 159) else (trammelref1_Width.j4 kj13 a0 a1 3 160 191)) else (if (bt a0 a1) = 237 then (trammelref1_Width.j4 kj13 a0 a1 3 128 159) else (trammelref1_Width.j4 kj13 a0 a1 3 128 191))) = some r := by rw [if_pos rfl] at H; exact H
                            clear H
                            have H := H1
                            clear H1
                            by_cases c17 : (bt a0 a1) = 224
                            · rw [if_pos c17] at H
                              have c17b0 : ((bt a0 a1) == 224) = true := beq_iff_eq.mpr c17
                              have c17b1 : ((bt a0 a1) != 224) = false := bne_eq_false_iff_eq.mpr c17
                              clear c17
                              by_cases c18 : (bt a0 a1) = 237
                              · rw [if_pos c18] at H
                                have c18b0 : ((bt a0 a1) == 237) = true := beq_iff_eq.mpr c18
                                have c18b1 : ((bt a0 a1) != 237) = false := bne_eq_false_iff_eq.mpr c18
                                clear c18
                                have H' := Aside0.mk H
                                clear H
                                go_wp2
                                go_meet
                                case rel => exact ⟨_, (3), (160), (159), (by first | rfl | (simp; done) | (simp [*]; done)), (by first | rfl | (simp; done) | (simp [*]; done)), (by first | rfl | (simp; done) | (simp [*]; done)), H', ⟨by have := HJ2.out; have := HJ10.out; have := HJ13.out; first | omega | exact Nat.le_refl _⟩, by repeat (first | exact Drawn0.refl _ | apply Drawn0.step)⟩
                              · rw [if_neg c18] at H
                                have c18b0 : ((bt a0 a1) == 237) = false := beq_eq_false_iff_ne.mpr c18
                                have c18b1 : ((bt a0 a1) != 237) = true := bne_iff_ne.mpr c18
                                have H' := Aside0.mk H
                                clear H
                                go_wp2
                                go_meet
                                case rel => exact ⟨_, (3), (160), (191), (by first | rfl | (simp; done) | (simp [*]; done)), (by first | rfl | (simp; done) | (simp [*]; done)), (by first | rfl | (simp; done) | (simp [*]; done)), H', ⟨by have := HJ2.out; have := HJ10.out; have := HJ13.out; first | omega | exact Nat.le_refl _⟩, by repeat (first | exact Drawn0.refl _ | apply Drawn0.step)⟩
                            · rw [if_neg c17] at H
                              have c17b0 : ((bt a0 a1) == 224) = false := beq_eq_false_iff_ne.mpr c17
                              have c17b1 : ((bt a0 a1) != 224) = true := bne_iff_ne.mpr c17
                              by_cases c19 : (bt a0 a1) = 237
                              · rw [if_pos c19] at H
                                have c19b0 : ((bt a0 a1) == 237) = true := beq_iff_eq.mpr c19
                                have c19b1 : ((bt a0 a1) != 237) = false := bne_eq_false_iff_eq.mpr c19
                                clear c19
                                have H' := Aside0.mk H
                                clear H
                                go_wp2
                                go_meet
                                case rel => exact ⟨_, (3), (128), (159), (by first | rfl | (simp; done) | (simp [*]; done)), (by first | rfl | (simp; done) | (simp [*]; done)), (by first | rfl | (simp; done) | (simp [*]; done)), H', ⟨by have := HJ2.out; have := HJ10.out; have := HJ13.out; first | omega | exact Nat.le_refl _⟩, by repeat (first | exact Drawn0.refl _ | apply Drawn0.step)⟩
                              · rw [if_neg c19] at H
                                have c19b0 : ((bt a0 a1) == 237) = false := beq_eq_false_iff_ne.mpr c19
                                have c19b1 : ((bt a0 a1) != 237) = true := bne_iff_ne.mpr c19
                                have H' := Aside0.mk H
                                clear H
                                go_wp2
                                go_meet
                                case rel => exact ⟨_, (3), (128), (191), (by first | rfl | (simp; done) | (simp [*]; done)), (by first | rfl | (simp; done) | (simp [*]; done)), (by first | rfl | (simp; done) | (simp [*]; done)), H', ⟨by have := HJ2.out; have := HJ10.out; have := HJ13.out; first | omega | exact Nat.le_refl _⟩, by repeat (first | exact Drawn0.refl _ | apply Drawn0.step)⟩
                          · replace c16 := Bool.eq_false_iff.mpr c16
                            subst c16
                            have H1 : (if (bt a0 a1) ≥ 240 then (trammelref1_Width.j3 kj13 a0 a1 (bt a0 a1) 128 191 (decide ((bt a0 a1) ≤ 244))) else (trammelref1_Width.j3 kj13 a0 a1 (bt a0 a1) 128 191 false)) = some r := by rw [if_neg (show ¬ (false = true) by decide)] at H; exact H
                            clear H
                            have H := H1
                            clear H1
                            have HC20 := Aside0.mk H
                            clear H
                            go_upto_region 16 with (fail)
                            go_cut [42] (fun v42 wc => ∃ (kq : Nat) (x42_19 : Bool), v42 = .bool x42_19 ∧ Aside0 (trammelref1_Width.j3 kq a0 a1 (bt a0 a1) 128 191 x42_19 = some r) ∧ Aside0 (kq ≤ kj13) ∧ Drawn0 w wc)
                            case first =>
                              have H := HC20.out
                              clear HC20
                              by_cases c21 : (bt a0 a1) ≥ 240
                              · rw [if_pos c21] at H
                                have c21b0 : decide (240 ≤ (bt a0 a1)) = true := decide_eq_true c21
                                clear c21
                                (first | rw [c21b0] | (simp only [i64_w, i32_w]; rw [c21b0]) | skip)
                                have H' := Aside0.mk H
                                clear H
                                go_wp2
                                go_meet
                                case rel => exact ⟨_, (decide ((bt a0 a1) ≤ 244)), (by first | rfl | (simp; done) | (simp [*]; done)), H', ⟨by have := HJ2.out; have := HJ10.out; have := HJ13.out; first | omega | exact Nat.le_refl _⟩, by repeat (first | exact Drawn0.refl _ | apply Drawn0.step)⟩
                              · rw [if_neg c21] at H
                                have c21b0 : decide (240 ≤ (bt a0 a1)) = false := decide_eq_false c21
                                clear c21
                                (first | rw [c21b0] | (simp only [i64_w, i32_w]; rw [c21b0]) | skip)
                                have H' := Aside0.mk H
                                clear H
                                go_wp2
                                go_meet
                                case rel => exact ⟨_, (false), (by first | rfl | (simp; done) | (simp [*]; done)), H', ⟨by have := HJ2.out; have := HJ10.out; have := HJ13.out; first | omega | exact Nat.le_refl _⟩, by repeat (first | exact Drawn0.refl _ | apply Drawn0.step)⟩
                            case rest =>
                              clear HC20
                              try clear c1
                              try clear c2
                              try clear p2
                              try clear c4
                              try clear c4b0
                              try clear c5
                              try clear c6
                              try clear c6b0
                              try clear c7
                              try clear c7b0
                              try clear c8
                              try clear p8
                              try clear q8
                              try clear hx8
                              try clear c10
                              try clear c10b0
                              try clear c12
                              try clear c12b0
                              try clear c13
                              try clear c15
                              try clear c15b0
                              try clear c16
                              try clear c17
                              try clear c17b0
                              try clear c17b1
                              try clear c18
                              try clear c18b0
                              try clear c18b1
                              try clear c19
                              try clear c19b0
                              try clear c19b1
                              try clear c21
                              try clear c21b0
                              try clear p2
                              try clear p8
                              try clear q8
                              obtain ⟨kq, x42_19, rfl, HA, HJ19, ⟨mc19, rfl⟩⟩ := hcut
                              cases kq with
                              | zero => exact absurd HA.out (by simp [trammelref1_Width.j3])
                              | succ kj19 =>
                                have H := HA.out
                                clear HA
                                simp only [trammelref1_Width.j3] at H
                                by_cases c22 : x42_19 = true
                                · subst c22
                                  have H1 : (if (bt a0 a1) = 240 then (if (bt a0 a1) = 244 then (trammelref1_Width.j4 kj19 a0 a1 4 144 143) else (trammelref1_Width.j4 kj19 a0 a1 4 144 191)) else (if (bt a0 a1) = 244 then (trammelref1_Width.j4 kj19 a0 a1 4 128 143) else (trammelref1_Width.j4 kj19 a0 a1 4 128 191))) = some r := by rw [if_pos rfl] at H; exact H
                                  clear H
                                  have H := H1
                                  clear H1
                                  by_cases c23 : (bt a0 a1) = 240
                                  · rw [if_pos c23] at H
                                    have c23b0 : ((bt a0 a1) == 240) = true := beq_iff_eq.mpr c23
                                    have c23b1 : ((bt a0 a1) != 240) = false := bne_eq_false_iff_eq.mpr c23
                                    clear c23
                                    by_cases c24 : (bt a0 a1) = 244
                                    · rw [if_pos c24] at H
                                      have c24b0 : ((bt a0 a1) == 244) = true := beq_iff_eq.mpr c24
                                      have c24b1 : ((bt a0 a1) != 244) = false := bne_eq_false_iff_eq.mpr c24
                                      clear c24
                                      have H' := Aside0.mk H
                                      clear H
                                      go_wp2
                                      go_meet
                                      case rel => exact ⟨_, (4), (144), (143), (by first | rfl | (simp; done) | (simp [*]; done)), (by first | rfl | (simp; done) | (simp [*]; done)), (by first | rfl | (simp; done) | (simp [*]; done)), H', ⟨by have := HJ2.out; have := HJ10.out; have := HJ13.out; have := HJ19.out; first | omega | exact Nat.le_refl _⟩, by repeat (first | exact Drawn0.refl _ | apply Drawn0.step)⟩
                                    · rw [if_neg c24] at H
                                      have c24b0 : ((bt a0 a1) == 244) = false := beq_eq_false_iff_ne.mpr c24
                                      have c24b1 : ((bt a0 a1) != 244) = true := bne_iff_ne.mpr c24
                                      have H' := Aside0.mk H
                                      clear H
                                      go_wp2
                                      go_meet
                                      case rel => exact ⟨_, (4), (144), (191), (by first | rfl | (simp; done) | (simp [*]; done)), (by first | rfl | (simp; done) | (simp [*]; done)), (by first | rfl | (simp; done) | (simp [*]; done)), H', ⟨by have := HJ2.out; have := HJ10.out; have := HJ13.out; have := HJ19.out; first | omega | exact Nat.le_refl _⟩, by repeat (first | exact Drawn0.refl _ | apply Drawn0.step)⟩
                                  · rw [if_neg c23] at H
                                    have c23b0 : ((bt a0 a1) == 240) = false := beq_eq_false_iff_ne.mpr c23
                                    have c23b1 : ((bt a0 a1) != 240) = true := bne_iff_ne.mpr c23
                                    by_cases c25 : (bt a0 a1) = 244
                                    · rw [if_pos c25] at H
                                      have c25b0 : ((bt a0 a1) == 244) = true := beq_iff_eq.mpr c25
                                      have c25b1 : ((bt a0 a1) != 244) = false := bne_eq_false_iff_eq.mpr c25
                                      clear c25
                                      have H' := Aside0.mk H
                                      clear H
                                      go_wp2
                                      go_meet
                                      case rel => exact ⟨_, (4), (128), (143), (by first | rfl | (simp; done) | (simp [*]; done)), (by first | rfl | (simp; done) | (simp [*]; done)), (by first | rfl | (simp; done) | (simp [*]; done)), H', ⟨by have := HJ2.out; have := HJ10.out; have := HJ13.out; have := HJ19.out; first | omega | exact Nat.le_refl _⟩, by repeat (first | exact Drawn0.refl _ | apply Drawn0.step)⟩
                                    · rw [if_neg c25] at H
                                      have c25b0 : ((bt a0 a1) == 244) = false := beq_eq_false_iff_ne.mpr c25
                                      have c25b1 : ((bt a0 a1) != 244) = true := bne_iff_ne.mpr c25
                                      have H' := Aside0.mk H
                                      clear H
                                      go_wp2
                                      go_meet
                                      case rel => exact ⟨_, (4), (128), (191), (by first | rfl | (simp; done) | (simp [*]; done)), (by first | rfl | (simp; done) | (simp [*]; done)), (by first | rfl | (simp; done) | (simp [*]; done)), H', ⟨by have := HJ2.out; have := HJ10.out; have := HJ13.out; have := HJ19.out; first | omega | exact Nat.le_refl _⟩, by repeat (first | exact Drawn0.refl _ | apply Drawn0.step)⟩
                                · replace c22 := Bool.eq_false_iff.mpr c22
                                  subst c22
                                  have H1 : (some 0) = some r := by rw [if_neg (show ¬ (false = true) by decide)] at H; exact H
                                  clear H
                                  have H := H1
                                  clear H1
                                  obtain rfl := Option.some.inj H
                                  go_wp2
                                  go_ret
                                  exact ⟨by first | rfl | (simp; done) | (simp [*]; done), by repeat (first | exact Drawn0.refl _ | apply Drawn0.step)⟩
            case rest =>
              clear HC9
              try clear c1
              try clear c2
              try clear p2
              try clear c4
              try clear c4b0
              try clear c5
              try clear c6
              try clear c6b0
              try clear c7
              try clear c7b0
              try clear c8
              try clear p8
              try clear q8
              try clear hx8
              try clear c10
              try clear c10b0
              try clear c12
              try clear c12b0
              try clear c13
              try clear c15
              try clear c15b0
              try clear c16
              try clear c17
              try clear c17b0
              try clear c17b1
              try clear c18
              try clear c18b0
              try clear c18b1
              try clear c19
              try clear c19b0
              try clear c19b1
              try clear c21
              try clear c21b0
              try clear c22
              try clear c23
              try clear c23b0
              try clear c23b1
              try clear c24
              try clear c24b0
              try clear c24b1
              try clear c25
              try clear c25b0
              try clear c25b1
              try clear p2
              try clear p8
              try clear q8
              obtain ⟨kq, x6_8, x7_8, x8_8, rfl, rfl, rfl, HA, HJ8, ⟨mc8, rfl⟩⟩ := hcut
              cases kq with
              | zero => exact absurd HA.out (by simp [trammelref1_Width.j4])
              | succ kj8 =>
                have H := HA.out
                clear HA
                simp only [trammelref1_Width.j4] at H
                have HC26 := Aside0.mk H
                clear H
                go_upto_region 22 with (fail)
                go_cut [74] (fun v74 wc => ∃ (kq : Nat) (x74_25 : Bool), v74 = .bool x74_25 ∧ Aside0 (trammelref1_Width.j5 kq a0 a1 x6_8 x74_25 = some r) ∧ Aside0 (kq ≤ kj8) ∧ Drawn0 w wc)
                case first =>
                  have H := HC26.out
                  clear HC26
                  by_cases c27 : (wrap64 (a1 + x6_8)) > (a0.size : Int)
                  · rw [if_pos c27] at H
                    have c27b0 : decide ((a0.size : Int) < (wrap64 (a1 + x6_8))) = true := decide_eq_true c27
                    clear c27
                    (first | rw [c27b0] | (simp only [i64_w, i32_w]; rw [c27b0]) | skip)
                    have H' := Aside0.mk H
                    clear H
                    go_wp2
                    go_meet
                    case rel => exact ⟨_, (true), (by first | rfl | (simp; done) | (simp [*]; done)), H', ⟨by have := HJ2.out; have := HJ8.out; first | omega | exact Nat.le_refl _⟩, by repeat (first | exact Drawn0.refl _ | apply Drawn0.step)⟩
                  · rw [if_neg c27] at H
                    have c27b0 : decide ((a0.size : Int) < (wrap64 (a1 + x6_8))) = false := decide_eq_false c27
                    clear c27
                    (first | rw [c27b0] | (simp only [i64_w, i32_w]; rw [c27b0]) | skip)
                    obtain ⟨ji28, hji28⟩ : ∃ j_ : Int, (wrap64 (a1 + 1)) = j_ := ⟨_, rfl⟩
                    replace H : (if 0 ≤ (ji28) then (if (ji28) < (a0.size : Int) then (if (bt a0 (ji28)) < x7_8 then (trammelref1_Width.j5 kj8 a0 a1 x6_8 true) else (trammelref1_Width.j5 kj8 a0 a1 x6_8 (decide ((bt a0 (ji28)) > x8_8)))) else (none)) else (none)) = some r := by first | (rw [hji28] at H; exact H) | (simp only [hji28] at H ⊢; exact H)
                    have hji28w : (IntKind.i64.wrap (a1 + 1)) = ji28 := (i64_w _).trans hji28
                    by_cases c29 : 0 ≤ (ji28)
                    · rw [if_pos c29] at H
                      have c29b0 : decide (0 ≤ (ji28)) = true := decide_eq_true c29
                      clear c29
                      by_cases c30 : (ji28) < (a0.size : Int)
                      · rw [if_pos c30] at H
                        have c30b0 : decide ((ji28) < (a0.size : Int)) = true := decide_eq_true c30
                        clear c30
                        by_cases c32 : (bt a0 (ji28)) < x7_8
                        · rw [if_pos c32] at H
                          have c32b0 : decide ((bt a0 (ji28)) < x7_8) = true := decide_eq_true c32
                          clear c32
                          have H' := Aside0.mk H
                          clear H
                          have p31 : 0 ≤ ((ji28) : Int) := of_decide_eq_true (by first | (with_reducible assumption) | assumption)
                          have q31 : (ji28) < (a0.size : Int) := of_decide_eq_true (by first | (with_reducible assumption) | assumption)
                          have hx31 := bt_at a0 (ji28)
                          replace p31 := eq_true p31
                          replace q31 := eq_true q31
                          go_wp2
                          go_meet
                          case rel => exact ⟨_, (true), (by first | rfl | (simp; done) | (simp [*]; done)), H', ⟨by have := HJ2.out; have := HJ8.out; first | omega | exact Nat.le_refl _⟩, by repeat (first | exact Drawn0.refl _ | apply Drawn0.step)⟩
                        · rw [if_neg c32] at H
                          have c32b0 : decide ((bt a0 (ji28)) < x7_8) = false := decide_eq_false c32
                          clear c32
                          have H' := Aside0.mk H
                          clear H
                          have p31 : 0 ≤ ((ji28) : Int) := of_decide_eq_true (by first | (with_reducible assumption) | assumption)
                          have q31 : (ji28) < (a0.size : Int) := of_decide_eq_true (by first | (with_reducible assumption) | assumption)
                          have hx31 := bt_at a0 (ji28)
                          replace p31 := eq_true p31
                          replace q31 := eq_true q31
                          have p33 : 0 ≤ ((ji28) : Int) := of_decide_eq_true (by first | (with_reducible assumption) | assumption)
                          have q33 : (ji28) < (a0.size : Int) := of_decide_eq_true (by first | (with_reducible assumption) | assumption)
                          have hx33 := bt_at a0 (ji28)
                          replace p33 := eq_true p33
                          replace q33 := eq_true q33
                          go_wp2
                          go_meet
                          case rel => exact ⟨_, (decide ((bt a0 (ji28)) > x8_8)), (by first | rfl | (simp; done) | (simp only [← hji28] <;> (first | rfl | simp)) | (simp [*]; done)), H', ⟨by have := HJ2.out; have := HJ8.out; first | omega | exact Nat.le_refl _⟩, by repeat (first | exact Drawn0.refl _ | apply Drawn0.step)⟩
                      · rw [if_neg c30] at H
                        exact absurd H (by simp)
                    · rw [if_neg c29] at H
                      exact absurd H (by simp)
                case rest =>
                  clear HC26
                  try clear c1
                  try clear c2
                  try clear p2
                  try clear c3
                  try clear p3
                  try clear q3
                  try clear hx3
                  try clear c4
                  try clear c4b0
                  try clear c5
                  try clear c6
                  try clear c6b0
                  try clear p6
                  try clear c7
                  try clear c7b0
                  try clear c8
                  try clear p8
                  try clear q8
                  try clear hx8
                  try clear c10
                  try clear c10b0
                  try clear c12
                  try clear c12b0
                  try clear c13
                  try clear c15
                  try clear c15b0
                  try clear c16
                  try clear c17
                  try clear c17b0
                  try clear c17b1
                  try clear c18
                  try clear c18b0
                  try clear c18b1
                  try clear c19
                  try clear c19b0
                  try clear c19b1
                  try clear c21
                  try clear c21b0
                  try clear c22
                  try clear c23
                  try clear c23b0
                  try clear c23b1
                  try clear c24
                  try clear c24b0
                  try clear c24b1
                  try clear c25
                  try clear c25b0
                  try clear c25b1
                  try clear c27
                  try clear c27b0
                  try clear c29
                  try clear c29b0
                  try clear c30
                  try clear c30b0
                  try clear p31
                  try clear q31
                  try clear hx31
                  try clear c32
                  try clear c32b0
                  try clear p33
                  try clear q33
                  try clear hx33
                  try clear p2
                  try clear p31
                  try clear p33
                  try clear p8
                  try clear q31
                  try clear q33
                  try clear q8
                  obtain ⟨kq, x74_25, rfl, HA, HJ25, ⟨mc25, rfl⟩⟩ := hcut
                  cases kq with
                  | zero => exact absurd HA.out (by simp [trammelref1_Width.j5])
                  | succ kj25 =>
                    have H := HA.out
                    clear HA
                    simp only [trammelref1_Width.j5] at H
                    by_cases c34 : x74_25 = true
                    · subst c34
                      have H1 : (some 0) = some r := by rw [if_pos rfl] at H; exact H
                      clear H
                      have H := H1
                      clear H1
                      obtain rfl := Option.some.inj H
                      go_wp2
                      go_ret
                      exact ⟨by first | rfl | (simp; done) | (simp [*]; done), by repeat (first | exact Drawn0.refl _ | apply Drawn0.step)⟩
                    · replace c34 := Bool.eq_false_iff.mpr c34
                      subst c34
                      have H1 : (trammelref1_Width.l0 kj25 a0 a1 x6_8 2) = some r := by rw [if_neg (show ¬ (false = true) by decide)] at H; exact H
                      clear H
                      have H := H1
                      clear H1
                      have H' := Aside0.mk H
                      clear H
                      go_wp2
                      go_loopg [9] kj25 (fun kq v9 w' => ∃ (x9_4 : Int), v9 = .int .i64 x9_4 ∧ Aside0 (trammelref1_Width.l0 kq a0 a1 x6_8 x9_4 = some r) ∧ Aside0 (kq ≤ kj25) ∧ Drawn0 w w')
                      case atStart => exact ⟨(2), (by first | rfl | (simp; done) | (simp [*]; done)), H', ⟨Nat.le_refl _⟩, by repeat (first | exact Drawn0.refl _ | apply Drawn0.step)⟩
                      case round =>
                        clear H'
                        try clear c1
                        try clear c2
                        try clear p2
                        try clear c3
                        try clear p3
                        try clear q3
                        try clear hx3
                        try clear c4
                        try clear c4b0
                        try clear c5
                        try clear c6
                        try clear c6b0
                        try clear p6
                        try clear c7
                        try clear c7b0
                        try clear c8
                        try clear p8
                        try clear q8
                        try clear hx8
                        try clear c10
                        try clear c10b0
                        try clear c12
                        try clear c12b0
                        try clear c13
                        try clear c15
                        try clear c15b0
                        try clear c16
                        try clear c17
                        try clear c17b0
                        try clear c17b1
                        try clear c18
                        try clear c18b0
                        try clear c18b1
                        try clear c19
                        try clear c19b0
                        try clear c19b1
                        try clear c21
                        try clear c21b0
                        try clear c22
                        try clear c23
                        try clear c23b0
                        try clear c23b1
                        try clear c24
                        try clear c24b0
                        try clear c24b1
                        try clear c25
                        try clear c25b0
                        try clear c25b1
                        try clear c27
                        try clear c27b0
                        try clear c29
                        try clear c29b0
                        try clear c30
                        try clear c30b0
                        try clear p31
                        try clear q31
                        try clear hx31
                        try clear c32
                        try clear c32b0
                        try clear p33
                        try clear q33
                        try clear hx33
                        try clear c34
                        try clear p2
                        try clear p3
                        try clear p31
                        try clear p33
                        try clear p6
                        try clear p8
                        try clear q3
                        try clear q31
                        try clear q33
                        try clear q8
                        obtain ⟨x9_4, rfl, HA, HK4, ⟨m4, rfl⟩⟩ := hrel
                        cases gk with
                        | zero => exact absurd HA.out (by simp [trammelref1_Width.l0])
                        | succ k4 =>
                          have H := HA.out
                          clear HA
                          simp only [trammelref1_Width.l0] at H
                          by_cases c35 : x9_4 < x6_8
                          · rw [if_pos c35] at H
                            have c35b0 : decide (x9_4 < x6_8) = true := decide_eq_true c35
                            clear c35
                            obtain ⟨ji36, hji36⟩ : ∃ j_ : Int, (wrap64 (a1 + x9_4)) = j_ := ⟨_, rfl⟩
                            replace H : (if 0 ≤ (ji36) then (if (ji36) < (a0.size : Int) then (if (bt a0 (ji36)) < 128 then (some 0) else (if (bt a0 (ji36)) > 191 then (some 0) else (trammelref1_Width.l0 k4 a0 a1 x6_8 (wrap64 (x9_4 + 1))))) else (none)) else (none)) = some r := by first | (rw [hji36] at H; exact H) | (simp only [hji36] at H ⊢; exact H)
                            have hji36w : (IntKind.i64.wrap (a1 + x9_4)) = ji36 := (i64_w _).trans hji36
                            by_cases c37 : 0 ≤ (ji36)
                            · rw [if_pos c37] at H
                              have c37b0 : decide (0 ≤ (ji36)) = true := decide_eq_true c37
                              clear c37
                              by_cases c38 : (ji36) < (a0.size : Int)
                              · rw [if_pos c38] at H
                                have c38b0 : decide ((ji36) < (a0.size : Int)) = true := decide_eq_true c38
                                clear c38
                                by_cases c40 : (bt a0 (ji36)) < 128
                                · rw [if_pos c40] at H
                                  have c40b0 : decide ((bt a0 (ji36)) < 128) = true := decide_eq_true c40
                                  clear c40
                                  obtain rfl := Option.some.inj H
                                  have p39 : 0 ≤ ((ji36) : Int) := of_decide_eq_true (by first | (with_reducible assumption) | assumption)
                                  have q39 : (ji36) < (a0.size : Int) := of_decide_eq_true (by first | (with_reducible assumption) | assumption)
                                  have hx39 := bt_at a0 (ji36)
                                  replace p39 := eq_true p39
                                  replace q39 := eq_true q39
                                  go_wp2
                                  go_ret
                                  exact ⟨by first | rfl | (simp; done) | (simp only [← hji36] <;> (first | rfl | simp)) | (simp [*]; done), by repeat (first | exact Drawn0.refl _ | apply Drawn0.step)⟩
                                · rw [if_neg c40] at H
                                  have c40b0 : decide ((bt a0 (ji36)) < 128) = false := decide_eq_false c40
                                  clear c40
                                  by_cases c42 : (bt a0 (ji36)) > 191
                                  · rw [if_pos c42] at H
                                    have c42b0 : decide (191 < (bt a0 (ji36))) = true := decide_eq_true c42
                                    clear c42
                                    obtain rfl := Option.some.inj H
                                    have p39 : 0 ≤ ((ji36) : Int) := of_decide_eq_true (by first | (with_reducible assumption) | assumption)
                                    have q39 : (ji36) < (a0.size : Int) := of_decide_eq_true (by first | (with_reducible assumption) | assumption)
                                    have hx39 := bt_at a0 (ji36)
                                    replace p39 := eq_true p39
                                    replace q39 := eq_true q39
                                    have p41 : 0 ≤ ((ji36) : Int) := of_decide_eq_true (by first | (with_reducible assumption) | assumption)
                                    have q41 : (ji36) < (a0.size : Int) := of_decide_eq_true (by first | (with_reducible assumption) | assumption)
                                    have hx41 := bt_at a0 (ji36)
                                    replace p41 := eq_true p41
                                    replace q41 := eq_true q41
                                    go_wp2
                                    go_ret
                                    exact ⟨by first | rfl | (simp; done) | (simp only [← hji36] <;> (first | rfl | simp)) | (simp [*]; done), by repeat (first | exact Drawn0.refl _ | apply Drawn0.step)⟩
                                  · rw [if_neg c42] at H
                                    have c42b0 : decide (191 < (bt a0 (ji36))) = false := decide_eq_false c42
                                    clear c42
                                    have H' := Aside0.mk H
                                    clear H
                                    have p39 : 0 ≤ ((ji36) : Int) := of_decide_eq_true (by first | (with_reducible assumption) | assumption)
                                    have q39 : (ji36) < (a0.size : Int) := of_decide_eq_true (by first | (with_reducible assumption) | assumption)
                                    have hx39 := bt_at a0 (ji36)
                                    replace p39 := eq_true p39
                                    replace q39 := eq_true q39
                                    have p41 : 0 ≤ ((ji36) : Int) := of_decide_eq_true (by first | (with_reducible assumption) | assumption)
                                    have q41 : (ji36) < (a0.size : Int) := of_decide_eq_true (by first | (with_reducible assumption) | assumption)
                                    have hx41 := bt_at a0 (ji36)
                                    replace p41 := eq_true p41
                                    replace q41 := eq_true q41
                                    go_wp2
                                    go_roundg k4
                                    case measure => have := HJ2.out; have := HJ8.out; have := HJ25.out; have := HK4.out; omega
                                    case rel => exact ⟨(wrap64 (x9_4 + 1)), (by first | rfl | (simp; done) | (simp [*]; done)), H', ⟨by have := HJ2.out; have := HJ8.out; have := HJ25.out; have := HK4.out; omega⟩, by repeat (first | exact Drawn0.refl _ | apply Drawn0.step)⟩
                              · rw [if_neg c38] at H
                                exact absurd H (by simp)
                            · rw [if_neg c37] at H
                              exact absurd H (by simp)
                          · rw [if_neg c35] at H
                            have c35b0 : decide (x9_4 < x6_8) = false := decide_eq_false c35
                            clear c35
                            obtain rfl := Option.some.inj H
                            go_wp2
                            go_ret
                            exact ⟨by first | rfl | (simp; done) | (simp [*]; done), by repeat (first | exact Drawn0.refl _ | apply Drawn0.step)⟩
          · rw [if_neg c7] at H
            exact absurd H (by simp)
        · rw [if_neg c6] at H
          exact absurd H (by simp)

end Go.Proofs.YtnogfhhfklkbiaaDoor.H
