/- Several texts in one: contracts of functions of the program, and what they lean on. In part written by a program of this session over the kit's print, in part by hand. -/
import Derived.Test.YtnogfhhfklkbiaaDoorYLexWords0
import Derived.Test.YtnogfhhfklkbiaaDoorYLexWords1
set_option linter.unusedVariables false
set_option linter.unusedSimpArgs false
set_option maxHeartbeats 1000000
namespace Go.Proofs.YtnogfhhfklkbiaaDoor.H
open Go.RowKit Go.Proofs.YtnogfhhfklkbiaaDoorW.PrintWords Go.Proofs.YtnogfhhfklkbiaaDoorW.PrintLast Go.Proofs.YtnogfhhfklkbiaaDoorW.PrintMore
open Go.Proofs.YtnogfhhfklkbiaaDoor.Src

def noErr : Option (Int × Int) → Bool
  | none => true
  | _ => false
theorem words_ok : (kwL.all fun l => (eqToks (lexQ (ba l)).1 [(⟨2, ba l, 0, 0⟩ : S60)] && noErr (lexQ (ba l)).2) && ((eqToks (lexQ (ba (l ++ [95]))).1 [(⟨0, ba (l ++ [95]), 0, 0⟩ : S60)] && noErr (lexQ (ba (l ++ [95]))).2) &&
    ((!kw (l ++ [120]) && (!kw l.dropLast || l == [105, 110, 116])) && (decide (l.length ≤ 10) && (decide (1 ≤ l.length) && !l.contains 32))))) = true := by decide +kernel
theorem kw_blank {l : List UInt8} (h : (32 : UInt8) ∈ l) : kw l = false := by
  rw [Bool.eq_false_iff]
  intro hk
  have hm : l ∈ kwL := List.contains_iff_mem.1 hk
  have := List.all_eq_true.1 words_ok l hm
  simp only [Bool.and_eq_true, Bool.not_eq_true'] at this
  have h2 := this.2.2.2.2.2
  rw [List.contains_iff_mem.2 h] at h2
  cases h2
theorem tokS_of {s : ByteArray} {ts : List S60} (h1 : eqToks (lexQ s).1 ts = true) (h2 : noErr (lexQ s).2 = true) : tokS s = (ts, 0, 0) := by
  unfold tokS
  rw [lexQ_is, (eqToks_iff _ _).1 h1]
  cases he : (lexQ s).2 with
  | none => rfl
  | some e => rw [he] at h2; cases h2
theorem LexWords_pure (a0 : Int) (a1 : ByteArray) (h1 : a1.size ≤ 140737488351232) : ∃ k, trammellaw2_LexWords.f k a0 a1 = some true := by
  refine ⟨501, ?_⟩
  unfold trammellaw2_LexWords.f
  rw [at_rounds trammellaw2_awake.mono (by decide : 300 ≤ 501) trammellaw2_awake.is, Option.bind_some, if_pos rfl]
  refine (bind_lit (b := kwL.map ba) rfl _).trans ?_
  try dsimp only
  rw [Bits.u64_mod a0 17 (by decide) (by decide)]
  have g0 := Int.emod_nonneg (a0 % 18446744073709551616) (b := 17) (by decide)
  have g1 := Int.emod_lt_of_pos (a0 % 18446744073709551616) (b := 17) (by decide)
  generalize a0 % 18446744073709551616 % 17 = q at *
  obtain ⟨n, rfl⟩ := Int.eq_ofNat_of_zero_le g0
  have hn : n < kwL.length := by show n < 17; omega
  have hrd : rdOf ByteArray.empty (kwL.map ba) (n : Int) = ba kwL[n] := by
    unfold rdOf
    rw [Int.toNat_natCast, List.getD_eq_getElem?_getD, List.getElem?_map, List.getElem?_eq_getElem hn]
    rfl
  have hok := List.all_eq_true.1 words_ok _ (List.getElem_mem hn)
  rw [if_pos (by omega), if_pos (by rw [List.length_map]; omega), hrd]
  have hkw : kw kwL[n] = true := List.contains_iff_mem.2 (List.getElem_mem hn)
  generalize kwL[n] = l at *
  simp only [Bool.and_eq_true, Bool.not_eq_true', Bool.or_eq_true, beq_iff_eq, decide_eq_true_eq] at hok
  obtain ⟨⟨t1, t2⟩, ⟨t3, t4⟩, ⟨k1, k2⟩, l1, l2, hb⟩ := hok
  have z : (ba l).size = l.length := ba_size l
  have e95 : ba l ++ (⟨#[95]⟩ : ByteArray) = ba (l ++ [95]) := ba_app l [95]
  have e120 : ba l ++ (⟨#[120]⟩ : ByteArray) = ba (l ++ [120]) := ba_app l [120]
  have z95 : (ba (l ++ [95])).size = l.length + 1 := by rw [ba_size, List.length_append]; rfl
  rw [tokS_is (ba l) (by omega) 501 (by omega), tokS_of t1 t2, Option.bind_some]
  rw [if_pos (by omega), e95, tokS_is (ba (l ++ [95])) (by omega) 501 (by omega), tokS_of t3 t4, Option.bind_some]
  try dsimp only
  rw [if_pos (by rfl)]
  show trammellaw2_LexWords.j0 (500 + 1) a1 (ba l) _ _ _ _ false = _
  simp only [trammellaw2_LexWords.j0, Bool.false_eq_true, if_false]
  have w1 : wrap64 (((ba l).size : Int) - 1) = ((l.length - 1 : Nat) : Int) := by rw [z]; unfold wrap64; omega
  have ex : ((ba l).extract 0 (l.length - 1)).data.toList = l.dropLast := by rw [extract_list, ba_list, List.dropLast_eq_take]
  have z32 : (ba l ++ (⟨#[32]⟩ : ByteArray)).size = l.length + 1 := by rw [ByteArray.size_append, z]; rfl
  rw [if_pos (by omega), e120, keyword_is _ 500 (by decide), Option.bind_some, w1, if_pos (by omega), if_pos (by omega), Int.toNat_natCast, keyword_is _ 500 (by decide), Option.bind_some, ex, ba_list, k1]
  simp only [trammellaw0_Num.f, Option.bind_some, if_true]
  rw [if_pos (by simp), show rd_T60 [(⟨2, ba l, 0, 0⟩ : S60)] 0 = ⟨2, ba l, 0, 0⟩ from rfl]
  rw [if_pos (by simp), keyword_is (ba l) 500 (by decide), ba_list, hkw, Option.bind_some, if_pos rfl]
  rw [if_pos (by simp), show rd_T60 [(⟨0, ba (l ++ [95]), 0, 0⟩ : S60)] 0 = ⟨0, ba (l ++ [95]), 0, 0⟩ from rfl]
  rw [if_pos (by simp [e95]), if_neg (by decide)]
  have fin : (if (ba l ++ (⟨#[32]⟩ : ByteArray)).size + a1.size ≤ 9223372036854775807 then ((lex_Keyword.f 500 ((ba l ++ (⟨#[32]⟩ : ByteArray)) ++ a1)).bind fun t => (if t = true then (some false) else (if 1 + (ba l).size ≤ 9223372036854775807 then ((lex_Keyword.f 500 ((⟨#[32]⟩ : ByteArray) ++ ba l)).bind fun u => (some (!u))) else (none)))) else (none)) = some true := by
    rw [if_pos (by omega), keyword_is _ 500 (by decide), Option.bind_some, kw_blank (by simp), if_neg (by decide), if_pos (by omega), keyword_is _ 500 (by decide), Option.bind_some, kw_blank (by simp)]
    rfl
  by_cases hd : kw l.dropLast = true
  · have hl : l = [105, 110, 116] := by
      rcases k2 with h | h
      · rw [hd] at h; cases h
      · exact h
    rw [hd, if_pos rfl, if_pos (by rw [toList_data, ba_list]; exact hl)]
    exact fin
  · have hd' : kw l.dropLast = false := by simpa using hd
    rw [hd', if_neg (by decide)]
    exact fin
end Go.Proofs.YtnogfhhfklkbiaaDoor.H
