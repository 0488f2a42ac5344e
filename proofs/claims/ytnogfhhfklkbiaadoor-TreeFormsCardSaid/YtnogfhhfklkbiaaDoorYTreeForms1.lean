/- Several texts in one: contracts of functions of the program, and what they lean on. In part written by a program of this session over the kit's print, in part by hand. -/
import Derived.Laws.BitsLemmas
import Derived.RowKit
import Derived.Test.YtnogfhhfklkbiaaDoorT4
import Derived.Test.YtnogfhhfklkbiaaDoorYTreeForms0
set_option linter.unusedVariables false
namespace Go.Proofs.YtnogfhhfklkbiaaDoor.Bits
open Go.RowKit

theorem wrap_i64_mem {n : Int} (h0 : 0 ≤ n) (h1 : n < 2 ^ 63) : IntKind.i64.wrap n = n := by
  rw [IntKind.wrap_i64]
  omega

/-- A mask of the low bits, of any number. -/
theorem and_mask (i : Nat) (hi : i ≤ 62) (x : Int) : bits .and .i64 x (2 ^ i - 1) = x % 2 ^ i := by
  have hpos : 0 < 2 ^ i := Nat.two_pow_pos i
  have hle : 2 ^ i ≤ 2 ^ 62 := Nat.pow_le_pow_right (by decide) hi
  have hc : ((2 : Int) ^ i - 1) = ((2 ^ i - 1 : Nat) : Int) := by
    rw [Int.natCast_sub hpos]; simp
  have e : bits .and .i64 x (2 ^ i - 1) = IntKind.i64.wrap (((x % ((2 ^ 64 : Nat) : Int)).toNat &&& (2 ^ i - 1) : Nat) : Int) := by
    rw [hc]
    have hb : (2 ^ i - 1) % 2 ^ IntKind.i64.bits = 2 ^ i - 1 := Nat.mod_eq_of_lt (by
      show 2 ^ i - 1 < 2 ^ 64
      omega)
    simp only [bits, BitVec.ofInt_natCast, BitVec.toNat_and, BitVec.toNat_ofNat, BitVec.toNat_ofInt, hb]
    rfl
  rw [e, Nat.and_two_pow_sub_one_eq_mod]
  have hlt : (x % ((2 ^ 64 : Nat) : Int)).toNat % 2 ^ i < 2 ^ i := Nat.mod_lt _ hpos
  rw [wrap_i64_mem (by omega) (by omega)]
  have hn : (0 : Int) ≤ x % ((2 ^ 64 : Nat) : Int) := Int.emod_nonneg _ (by decide)
  rw [Int.natCast_emod, Int.toNat_of_nonneg hn]
  have hd : ((2 : Int) ^ i) ∣ ((2 ^ 64 : Nat) : Int) := by
    refine ⟨((2 ^ (64 - i) : Nat) : Int), ?_⟩
    have : (2 : Nat) ^ 64 = 2 ^ i * 2 ^ (64 - i) := by rw [← Nat.pow_add]; congr 1; omega
    rw [this]
    simp
  rw [show ((2 ^ i : Nat) : Int) = (2 : Int) ^ i from by simp]
  exact Int.emod_emod_of_dvd x hd

theorem or_join (i : Nat) (x y : Int) (hi : i ≤ 62) (hx0 : 0 ≤ x) (hx : x % 2 ^ i = 0) (hx1 : x < 2 ^ 62) (hy0 : 0 ≤ y) (hy : y < 2 ^ i) : bits .or .i64 x y = x + y :=
  bits_join .i64 62 (by decide) (fun n h0 h1 => wrap_i64_mem h0 (by omega)) i x y hx0 hx hx1 hy0 hy (by
    have : (2 : Int) ^ i ≤ 2 ^ 62 := by exact_mod_cast (Nat.pow_le_pow_right (by decide) hi : (2:Nat) ^ i ≤ 2 ^ 62)
    omega)

theorem and63 (x : Int) : bits .and .i64 x 63 = x % 64 := and_mask 6 (by decide) x
theorem and127 (x : Int) : bits .and .i64 x 127 = x % 128 := and_mask 7 (by decide) x
theorem and1023 (x : Int) : bits .and .i64 x 1023 = x % 1024 := and_mask 10 (by decide) x
theorem and31 (x : Int) : bits .and .i64 x 31 = x % 32 := and_mask 5 (by decide) x
theorem and3 (x : Int) : bits .and .i64 x 3 = x % 4 := and_mask 2 (by decide) x
theorem and1 (x : Int) : bits .and .i64 x 1 = x % 2 := and_mask 1 (by decide) x
theorem and1073741823 (x : Int) : bits .and .i64 x 1073741823 = x % 1073741824 := and_mask 30 (by decide) x
theorem or128 (y : Int) (h0 : 0 ≤ y) (h1 : y < 64) : bits .or .i64 128 y = 128 + y := or_join 6 128 y (by decide) (by decide) (by decide) (by decide) h0 h1
theorem or192 (y : Int) (h0 : 0 ≤ y) (h1 : y < 64) : bits .or .i64 192 y = 192 + y := or_join 6 192 y (by decide) (by decide) (by decide) (by decide) h0 h1
theorem or224 (y : Int) (h0 : 0 ≤ y) (h1 : y < 32) : bits .or .i64 224 y = 224 + y := or_join 5 224 y (by decide) (by decide) (by decide) (by decide) h0 h1
theorem or240 (y : Int) (h0 : 0 ≤ y) (h1 : y < 16) : bits .or .i64 240 y = 240 + y := or_join 4 240 y (by decide) (by decide) (by decide) (by decide) h0 h1
theorem u64_wrap (x : Int) : IntKind.u64.wrap x = x % 18446744073709551616 := by
  simp [IntKind.wrap, IntKind.bits, IntKind.signed]
/-- 'int(uint(x) % m)'. -/
theorem u64_mod (x m : Int) (hm0 : 0 < m) (hm : m ≤ 4294967296) : wrap64 (Int.tmod (IntKind.u64.wrap x) m) = (x % 18446744073709551616) % m := by
  have h0 : 0 ≤ x % 18446744073709551616 := Int.emod_nonneg _ (by decide)
  rw [u64_wrap, Int.tmod_eq_emod_of_nonneg h0]
  have h1 := Int.emod_nonneg (x % 18446744073709551616) (b := m) (by omega)
  have h2 := Int.emod_lt_of_pos (x % 18446744073709551616) hm0
  unfold wrap64
  omega
end Go.Proofs.YtnogfhhfklkbiaaDoor.Bits

set_option linter.unusedVariables false
set_option linter.unusedSimpArgs false
set_option maxHeartbeats 4000000
set_option maxRecDepth 100000
namespace Go.Proofs.YtnogfhhfklkbiaaDoor.H
open Go.RowKit Go.Proofs.YtnogfhhfklkbiaaDoorW.PrintWords Go.Proofs.YtnogfhhfklkbiaaDoorW.PrintLast Go.Proofs.YtnogfhhfklkbiaaDoorW.PrintMore

theorem TreeForms_pure (a0 a1 : Int) : ∃ k, trammellaw3_TreeForms.f k a0 a1 = some true := by
  refine ⟨2000, ?_⟩
  have hq : Int.tmod (IntKind.u64.wrap a0) 20 = (a0 % 18446744073709551616) % 20 := by
    rw [Bits.u64_wrap, Int.tmod_eq_emod_of_nonneg (Int.emod_nonneg _ (by decide))]
  unfold trammellaw3_TreeForms.f
  rw [at_rounds trammellaw3_awake.mono (by decide : 1300 ≤ 2000) trammellaw3_awake.is, Option.bind_some, if_pos rfl, Bits.and1023, hq]
  have q0 := Int.emod_nonneg (a0 % 18446744073709551616) (b := 20) (by decide)
  have q1 := Int.emod_lt_of_pos (a0 % 18446744073709551616) (b := 20) (by decide)
  have e0 := Int.emod_nonneg a1 (b := 1024) (by decide)
  have e1 := Int.emod_lt_of_pos a1 (b := 1024) (by decide)
  clear hq
  generalize a0 % 18446744073709551616 % 20 = q at *
  generalize a1 % 1024 = e at *
  obtain ⟨n, rfl⟩ := Int.eq_ofNat_of_zero_le q0
  obtain ⟨d, rfl⟩ := Int.eq_ofNat_of_zero_le e0
  have hn : n < 20 := by omega
  have hd : d < 1024 := by omega
  clear q0 q1 e0 e1
  simp only [treeMay_is _ _ 2000 (by decide)]
  have hc : n = 0 ∨ n = 1 ∨ n = 2 ∨ n = 3 ∨ n = 4 ∨ n = 5 ∨ n = 6 ∨ n = 7 ∨ n = 8 ∨ n = 9 ∨ n = 10 ∨ n = 11 ∨ n = 12 ∨ n = 13 ∨ n = 14 ∨ n = 15 ∨ n = 16 ∨ n = 17 ∨ n = 18 ∨ n = 19 := by omega
  clear hn
  rcases hc with rfl | rfl | rfl | rfl | rfl | rfl | rfl | rfl | rfl | rfl | rfl | rfl | rfl | rfl | rfl | rfl | rfl | rfl | rfl | rfl
  all_goals
    revert hd
    revert d
    decide +kernel
end Go.Proofs.YtnogfhhfklkbiaaDoor.H
