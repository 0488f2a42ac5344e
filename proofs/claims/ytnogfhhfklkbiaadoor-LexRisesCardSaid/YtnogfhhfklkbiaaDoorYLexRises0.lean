/- Several texts in one: contracts of functions of the program, and what they lean on. In part written by a program of this session over the kit's print, in part by hand. -/
import Derived.Laws.BitsLemmas
import Derived.RowKit
import Derived.Test.YtnogfhhfklkbiaaDoorL5
import Derived.Test.YtnogfhhfklkbiaaDoorL0
set_option linter.unusedVariables false
namespace Go.Proofs.YtnogfhhfklkbiaaDoor.Bits
open Go.RowKit

theorem wrap_i64_mem {n : Int} (h0 : 0 ≤ n) (h1 : n < 2 ^ 63) : IntKind.i64.wrap n = n := by
  rw [IntKind.wrap_i64]
  omega

/-- A mask of the low bits, of any number. -/
theorem and_mask (i : Nat) (hi : i ≤ 62) (x : Int) : bits .and .i64 x (2 ^ i - 1) = x % 2 ^ i := by
  have hpos : 0 < 2 ^ i := Nat.two_pow_pos i
  have hle : 2 ^ i ≤ 2 ^ 62 := Nat.pow_le_pow_right (by decide) hi
  have hc : ((2 : Int) ^ i - 1) = ((2 ^ i - 1 : Nat) : Int) := by
    rw [Int.natCast_sub hpos]; simp
  have e : bits .and .i64 x (2 ^ i - 1) = IntKind.i64.wrap (((x % ((2 ^ 64 : Nat) : Int)).toNat &&& (2 ^ i - 1) : Nat) : Int) := by
    rw [hc]
    have hb : (2 ^ i - 1) % 2 ^ IntKind.i64.bits = 2 ^ i - 1 := Nat.mod_eq_of_lt (by
      show 2 ^ i - 1 < 2 ^ 64
      omega)
    simp only [bits, BitVec.ofInt_natCast, BitVec.toNat_and, BitVec.toNat_ofNat, BitVec.toNat_ofInt, hb]
    rfl
  rw [e, Nat.and_two_pow_sub_one_eq_mod]
  have hlt : (x % ((2 ^ 64 : Nat) : Int)).toNat % 2 ^ i < 2 ^ i := Nat.mod_lt _ hpos
  rw [wrap_i64_mem (by omega) (by omega)]
  have hn : (0 : Int) ≤ x % ((2 ^ 64 : Nat) : Int) := Int.emod_nonneg _ (by decide)
  rw [Int.natCast_emod, Int.toNat_of_nonneg hn]
  have hd : ((2 : Int) ^ i) ∣ ((2 ^ 64 : Nat) : Int) := by
    refine ⟨((2 ^ (64 - i) : Nat) : Int), ?_⟩
    have : (2 : Nat) ^ 64 = 2 ^ i * 2 ^ (64 - i) := by rw [← Nat.pow_add]; congr 1; omega
    rw [this]
    simp
  rw [show ((2 ^ i : Nat) : Int) = (2 : Int) ^ i from by simp]
  exact Int.emod_emod_of_dvd x hd

theorem or_join (i : Nat) (x y : Int) (hi : i ≤ 62) (hx0 : 0 ≤ x) (hx : x % 2 ^ i = 0) (hx1 : x < 2 ^ 62) (hy0 : 0 ≤ y) (hy : y < 2 ^ i) : bits .or .i64 x y = x + y :=
  bits_join .i64 62 (by decide) (fun n h0 h1 => wrap_i64_mem h0 (by omega)) i x y hx0 hx hx1 hy0 hy (by
    have : (2 : Int) ^ i ≤ 2 ^ 62 := by exact_mod_cast (Nat.pow_le_pow_right (by decide) hi : (2:Nat) ^ i ≤ 2 ^ 62)
    omega)

theorem and63 (x : Int) : bits .and .i64 x 63 = x % 64 := and_mask 6 (by decide) x
theorem and127 (x : Int) : bits .and .i64 x 127 = x % 128 := and_mask 7 (by decide) x
theorem and1023 (x : Int) : bits .and .i64 x 1023 = x % 1024 := and_mask 10 (by decide) x
theorem and31 (x : Int) : bits .and .i64 x 31 = x % 32 := and_mask 5 (by decide) x
theorem and3 (x : Int) : bits .and .i64 x 3 = x % 4 := and_mask 2 (by decide) x
theorem and1 (x : Int) : bits .and .i64 x 1 = x % 2 := and_mask 1 (by decide) x
theorem and1073741823 (x : Int) : bits .and .i64 x 1073741823 = x % 1073741824 := and_mask 30 (by decide) x
theorem or128 (y : Int) (h0 : 0 ≤ y) (h1 : y < 64) : bits .or .i64 128 y = 128 + y := or_join 6 128 y (by decide) (by decide) (by decide) (by decide) h0 h1
theorem or192 (y : Int) (h0 : 0 ≤ y) (h1 : y < 64) : bits .or .i64 192 y = 192 + y := or_join 6 192 y (by decide) (by decide) (by decide) (by decide) h0 h1
theorem or224 (y : Int) (h0 : 0 ≤ y) (h1 : y < 32) : bits .or .i64 224 y = 224 + y := or_join 5 224 y (by decide) (by decide) (by decide) (by decide) h0 h1
theorem or240 (y : Int) (h0 : 0 ≤ y) (h1 : y < 16) : bits .or .i64 240 y = 240 + y := or_join 4 240 y (by decide) (by decide) (by decide) (by decide) h0 h1
theorem u64_wrap (x : Int) : IntKind.u64.wrap x = x % 18446744073709551616 := by
  simp [IntKind.wrap, IntKind.bits, IntKind.signed]
/-- 'int(uint(x) % m)'. -/
theorem u64_mod (x m : Int) (hm0 : 0 < m) (hm : m ≤ 4294967296) : wrap64 (Int.tmod (IntKind.u64.wrap x) m) = (x % 18446744073709551616) % m := by
  have h0 : 0 ≤ x % 18446744073709551616 := Int.emod_nonneg _ (by decide)
  rw [u64_wrap, Int.tmod_eq_emod_of_nonneg h0]
  have h1 := Int.emod_nonneg (x % 18446744073709551616) (b := m) (by omega)
  have h2 := Int.emod_lt_of_pos (x % 18446744073709551616) hm0
  unfold wrap64
  omega
end Go.Proofs.YtnogfhhfklkbiaaDoor.Bits

set_option linter.unusedVariables false
set_option linter.unusedSimpArgs false
set_option maxHeartbeats 1000000
namespace Go.Proofs.YtnogfhhfklkbiaaDoor.H
open Go.RowKit Go.Proofs.YtnogfhhfklkbiaaDoorW.PrintWords Go.Proofs.YtnogfhhfklkbiaaDoorW.PrintLast Go.Proofs.YtnogfhhfklkbiaaDoorW.PrintMore
open Go.Proofs.YtnogfhhfklkbiaaDoor.Src

theorem bind_lit {α β : Type} {a b : α} (h : a = b) (F : α → Option β) : (some a).bind F = F b := by rw [h]; rfl
theorem ba_app (l m : List UInt8) : ba l ++ ba m = ba (l ++ m) := by
  apply bytes_ext
  rw [ByteArray.data_append]
  simp [ba]
theorem consT_len {p : Nat} {t : Tk} {l : List UInt8} {x y : Lexed} (h : t.2.2.2.2.2 = none → x = y) : consT p t x = consT p t y := by
  unfold consT
  cases he : t.2.2.2.2.2 with
  | some e => rfl
  | none => rw [h he]
theorem lexL_fuel : ∀ f g p l, l.length ≤ f → l.length ≤ g → lexL f p l = lexL g p l := by
  intro f
  induction f with
  | zero =>
    intro g p l h1 h2
    have : l = [] := List.eq_nil_of_length_eq_zero (by omega)
    subst this
    cases g <;> rfl
  | succ f ih =>
    intro g p l h1 h2
    cases l with
    | nil => cases g <;> rfl
    | cons c r =>
      obtain ⟨g, rfl⟩ : ∃ m, g = m + 1 := ⟨g - 1, by simp at h2; omega⟩
      simp only [List.length_cons] at h1 h2
      rw [lexL, lexL]
      by_cases hb : isBlank c = true
      · rw [if_pos hb, if_pos hb]
        exact ih g _ _ (by omega) (by omega)
      · rw [if_neg hb, if_neg hb]
        by_cases h35 : c = 35
        · have hn1 : 1 ≤ cutN 10 (c :: r) := by rw [h35]; simp [cutN, List.takeWhile_cons]
          rw [if_pos h35, if_pos h35]
          exact ih g _ _ (by rw [List.length_drop]; simp only [List.length_cons]; omega) (by rw [List.length_drop]; simp only [List.length_cons]; omega)
        · rw [if_neg h35, if_neg h35]
          refine consT_len (l := r) (fun he => ?_)
          obtain ⟨n, hn, hn1, hn2⟩ := tokL_len (l := c :: r) (by simp) he
          rw [hn, Int.toNat_natCast]
          exact ih g _ _ (by rw [List.length_drop]; simp only [List.length_cons]; omega) (by rw [List.length_drop]; simp only [List.length_cons]; omega)
def lexA (p : Nat) (l : List UInt8) : Lexed := lexL l.length p l
theorem lexA_nil (p : Nat) : lexA p [] = ([], none) := rfl
theorem lexA_blank (p : Nat) (c : UInt8) (r : List UInt8) (h : isBlank c = true) : lexA p (c :: r) = lexA (p + 1) r := by
  unfold lexA
  rw [List.length_cons, lexL, if_pos h]
theorem lexA_remark (p : Nat) (r : List UInt8) : lexA p (35 :: r) = lexA (p + cutN 10 (35 :: r)) ((35 :: r).drop (cutN 10 (35 :: r))) := by
  unfold lexA
  have hn1 : 1 ≤ cutN 10 (35 :: r) := by simp [cutN, List.takeWhile_cons]
  rw [List.length_cons, lexL, if_neg (by decide), if_pos rfl]
  exact lexL_fuel _ _ _ _ (by rw [List.length_drop]; simp only [List.length_cons]; omega) (Nat.le_refl _)
theorem lexA_tok (p : Nat) (c : UInt8) (r : List UInt8) (h : isBlank c = false) (h35 : c ≠ 35) : lexA p (c :: r) = consT p (tokL (c :: r)) (lexA (p + (tokL (c :: r)).2.2.2.2.1.toNat) ((c :: r).drop (tokL (c :: r)).2.2.2.2.1.toNat)) := by
  unfold lexA
  rw [List.length_cons, lexL, if_neg (by rw [h]; decide), if_neg h35]
  refine consT_len (l := r) (fun he => ?_)
  obtain ⟨n, hn, hn1, hn2⟩ := tokL_len (l := c :: r) (by simp) he
  rw [hn, Int.toNat_natCast]
  exact lexL_fuel _ _ _ _ (by rw [List.length_drop]; simp only [List.length_cons]; omega) (Nat.le_refl _)
/-- Of bytes below 128 a text is always in UTF-8. -/
theorem bad_ascii (s : ByteArray) (h : ∀ i (hi : i < s.data.toList.length), s.data.toList[i].toNat < 128) (i : Nat) : bad s i = none := by
  have hl := list_size s
  have hw : ∀ i, i < s.size → wd s i = 1 := by
    intro i hi
    have hb := bt_list s i _ (List.getElem?_eq_getElem (show i < s.data.toList.length by omega))
    have h1 := h i (by omega)
    unfold wd wd5
    rw [hb, if_neg (by omega), if_pos (by omega)]
    rfl
  refine walk (s := s) (P := fun i => bad s i = none) ?_ ?_ ?_ i
  · intro i h
    exact bad_end h
  · intro i h h0
    rw [hw i h] at h0
    cases h0
  · intro i h h0 ih
    rw [bad_on h h0]
    exact ih
theorem lexS_ascii (l : List UInt8) (hl : l.length ≤ 4096) (h : l.all (fun c => decide (c.toNat < 128)) = true) : lexS (ba l) = lexA 0 l := by
  unfold lexS
  rw [ba_size, if_neg (by omega), bad_ascii (ba l) (fun i hi => by
    have := List.all_eq_true.1 h _ (List.getElem_mem hi)
    simpa using this)]
  rfl
theorem tokS_ascii (l : List UInt8) (hl : l.length ≤ 4096) (h : l.all (fun c => decide (c.toNat < 128)) = true) : tokS (ba l) = ((lexA 0 l).1, (told2 (lexA 0 l).2).1, (told2 (lexA 0 l).2).2) := by
  unfold tokS
  rw [lexS_ascii l hl h]
theorem more_ascii : ∀ c, isMore c = true → c.toNat < 128 := byte_all (P := fun c => isMore c = true → c.toNat < 128) (by decide +kernel)
theorem dig_ascii : ∀ c, isDig c = true → isMore c = true ∧ isBlank c = false ∧ c ≠ 35 ∧ c ≠ 95 := byte_all (P := fun c => isDig c = true → isMore c = true ∧ isBlank c = false ∧ c ≠ 35 ∧ c ≠ 95) (by decide +kernel)
theorem tw_app (q : UInt8 → Bool) : ∀ (l m : List UInt8), l.all q = true → (m.takeWhile q = [] → (l ++ m).takeWhile q = l)
  | [], m, _, h => h
  | c :: l, m, hl, h => by
    rw [List.all_cons, Bool.and_eq_true] at hl
    rw [List.cons_append, List.takeWhile_cons_of_pos hl.1, tw_app q l m hl.2 h]
end Go.Proofs.YtnogfhhfklkbiaaDoor.H

namespace Go.Proofs.YtnogfhhfklkbiaaDoor.H
open Go.RowKit Go.Proofs.YtnogfhhfklkbiaaDoorW.PrintWords Go.Proofs.YtnogfhhfklkbiaaDoorW.PrintLast Go.Proofs.YtnogfhhfklkbiaaDoorW.PrintMore
attribute [local go_sem] max2_int min2_int max_two min_two max_three min_three max_four min_four   -- for this text's walks alone
set_option linter.unusedVariables false
set_option linter.unusedSimpArgs false

/-! ### trammelref0_Decimal: function 34 -/
mutual
def trammelref0_Decimal.j0 : Nat → Int → Int → Option (ByteArray)
  | 0, _, _ => none
  | k + 1, x0, x3 => trammelref0_Decimal.l0 k x0 x3 ([] : List Int)
def trammelref0_Decimal.l0 : Nat → Int → Int → List Int → Option (ByteArray)
  | 0, _, _, _ => none
  | k + 1, x0, x3, x4 => if x3 > 0 then ((some (([(IntKind.u64.wrap (48 + (Int.tmod x3 10))) % 256] : List Int) : List Int)).bind fun y255 => (if y255.length + x4.length < 140737488355328 then (trammelref0_Decimal.l0 k x0 (IntKind.u64.wrap (Int.tdiv x3 10)) (y255 ++ x4)) else (none))) else (if (x4.length : Int) = 0 then ((some (([(IntKind.u64.wrap (48 + (Int.tmod x3 10))) % 256] : List Int) : List Int)).bind fun y261 => (if y261.length + x4.length < 140737488355328 then (trammelref0_Decimal.l0 k x0 (IntKind.u64.wrap (Int.tdiv x3 10)) (y261 ++ x4)) else (none))) else (if x0 < 0 then ((some (([45] : List Int) : List Int)).bind fun y267 => (if y267.length + x4.length < 140737488355328 then (some (strOfNums (y267 ++ x4))) else (none))) else (some (strOfNums x4))))
end
def trammelref0_Decimal.f (k : Nat) (a0 : Int) : Option (ByteArray) := if a0 < 0 then (trammelref0_Decimal.j0 k a0 (IntKind.u64.wrap ((IntKind.u64.wrap (wrap64 (-(wrap64 (a0 + 1))))) + 1))) else (trammelref0_Decimal.j0 k a0 (IntKind.u64.wrap (a0)))
theorem trammelref0_Decimal.mono_l : ∀ k, (∀ y0 y1, LeO (trammelref0_Decimal.j0 k y0 y1) (trammelref0_Decimal.j0 (k + 1) y0 y1)) ∧ (∀ y0 y1 y2, LeO (trammelref0_Decimal.l0 k y0 y1 y2) (trammelref0_Decimal.l0 (k + 1) y0 y1 y2))
  | 0 => ⟨fun _ _ r h => by simp [trammelref0_Decimal.j0] at h, fun _ _ _ r h => by simp [trammelref0_Decimal.l0] at h⟩
  | k + 1 => by
    obtain ⟨ih0, ih1⟩ := trammelref0_Decimal.mono_l k
    refine ⟨?_, ?_⟩
    · intro y0 y1
      unfold trammelref0_Decimal.j0
      repeat' first
      | (with_reducible exact ih0 _ _)
      | (with_reducible exact ih1 _ _ _)
      | (with_reducible exact LeO.refl _)
      | (with_reducible exact LeO.none _)
      | (with_reducible refine LeO.ite ?_ ?_)
      | (with_reducible refine LeO.bind ?_ (fun _ => ?_))
      | exact ih0 _ _
      | exact ih1 _ _ _
      | exact LeO.none _
      | refine LeO.ite ?_ ?_
      | refine LeO.bind ?_ (fun _ => ?_)
    · intro y0 y1 y2
      unfold trammelref0_Decimal.l0
      repeat' first
      | (with_reducible exact ih0 _ _)
      | (with_reducible exact ih1 _ _ _)
      | (with_reducible exact LeO.refl _)
      | (with_reducible exact LeO.none _)
      | (with_reducible refine LeO.ite ?_ ?_)
      | (with_reducible refine LeO.bind ?_ (fun _ => ?_))
      | exact ih0 _ _
      | exact ih1 _ _ _
      | exact LeO.none _
      | refine LeO.ite ?_ ?_
      | refine LeO.bind ?_ (fun _ => ?_)
theorem trammelref0_Decimal.mono : ∀ a0 k, LeO (trammelref0_Decimal.f k a0) (trammelref0_Decimal.f (k + 1) a0) := by
  intro a0 k
  obtain ⟨ih0, ih1⟩ := trammelref0_Decimal.mono_l k
  unfold trammelref0_Decimal.f
  repeat' first
      | (with_reducible exact ih0 _ _)
      | (with_reducible exact ih1 _ _ _)
      | (with_reducible exact LeO.refl _)
      | (with_reducible exact LeO.none _)
      | (with_reducible refine LeO.ite ?_ ?_)
      | (with_reducible refine LeO.bind ?_ (fun _ => ?_))
      | exact ih0 _ _
      | exact ih1 _ _ _
      | exact LeO.none _
      | refine LeO.ite ?_ ?_
      | refine LeO.bind ?_ (fun _ => ?_)
set_option maxHeartbeats 8000000 in
set_option maxRecDepth 100000 in
theorem trammelref0_Decimal.calls (k : Nat) (a0 : Int) (r : ByteArray) (w : World) (h : trammelref0_Decimal.f k a0 = some r) :
    Calls Tryd.prog 34 #[.int .i64 a0] w fun e w' => e = .returned (.string r) ∧ Below w.heap.size w w' := by
  have HB := Aside0.mk (Below.refl w.heap.size w)
  have H : (if a0 < 0 then (trammelref0_Decimal.j0 k a0 (IntKind.u64.wrap ((IntKind.u64.wrap (wrap64 (-(wrap64 (a0 + 1))))) + 1))) else (trammelref0_Decimal.j0 k a0 (IntKind.u64.wrap (a0)))) = some r := h
  clear h
  have HC2 := Aside0.mk H
  clear H
  go_enter Tryd.func34, Tryd.ntmps34
  go_upto_if 8 with (fail)
  go_cut [3] (fun v3 wc => ∃ (kq : Nat) (x3_1 : Int), v3 = .int .u64 x3_1 ∧ Aside0 (trammelref0_Decimal.j0 kq a0 x3_1 = some r) ∧ Aside0 (kq ≤ k) ∧ Aside0 (Below w.heap.size w wc))
  case first =>
    have H := HC2.out
    clear HC2
    by_cases c3 : a0 < 0
    · rw [if_pos c3] at H
      have c3b0 : decide (a0 < 0) = true := decide_eq_true c3
      clear c3
      (first | rw [c3b0] | (simp only [i64_w, i32_w]; rw [c3b0]) | skip)
      have H' := Aside0.mk H
      clear H
      go_wp2
      go_meet
      case rel => exact ⟨_, (IntKind.u64.wrap ((IntKind.u64.wrap (wrap64 (-(wrap64 (a0 + 1))))) + 1)), (by first | rfl | (simp; done) | (simp [*]; done)), H', ⟨by first | omega | exact Nat.le_refl _⟩, ⟨by repeat (first | (with_reducible first | exact HB.out | apply below_alloc | apply pw_below_drewN | apply below_drew1) | exact HB.out)⟩⟩
    · rw [if_neg c3] at H
      have c3b0 : decide (a0 < 0) = false := decide_eq_false c3
      clear c3
      (first | rw [c3b0] | (simp only [i64_w, i32_w]; rw [c3b0]) | skip)
      have H' := Aside0.mk H
      clear H
      go_wp2
      go_meet
      case rel => exact ⟨_, (IntKind.u64.wrap (a0)), (by first | rfl | (simp; done) | (simp [*]; done)), H', ⟨by first | omega | exact Nat.le_refl _⟩, ⟨by repeat (first | (with_reducible first | exact HB.out | apply below_alloc | apply pw_below_drewN | apply below_drew1) | exact HB.out)⟩⟩
  case rest =>
    clear HC2
    try clear p2
    try clear c3
    try clear c3b0
    obtain ⟨kq, x3_1, rfl, HA, HJ1, HB⟩ := hcut
    cases kq with
    | zero => exact absurd HA.out (by simp [trammelref0_Decimal.j0])
    | succ kj1 =>
      have H := HA.out
      clear HA
      simp only [trammelref0_Decimal.j0] at H
      have H' := Aside0.mk H
      clear H
      go_wp2
      go_loopg [3, 4] kj1 (fun kq v3 v4 w' => ∃ (x3_2 : Int) (x4_2 : List Int), v3 = .int .u64 x3_2 ∧ Aside0 (trammelref0_Decimal.l0 kq a0 x3_2 x4_2 = some r) ∧ Aside0 (kq ≤ kj1) ∧ Aside0 (Kd.R (Kd.int .u8) 5 w' w.heap.size (fun _ => True) v4 x4_2) ∧ Aside0 (Below w.heap.size w w'))
      case atStart => exact ⟨(x3_1), (([] : List Int)), (by first | rfl | (simp; done) | (simp [*]; done)), H', ⟨Nat.le_refl _⟩, ⟨by first | exact Kd.R_nil _ _ _ _ _ | exact Kd.N_nil _ _ _ _ _ | exact Kd.V_nil _ _ _ _ _ | exact Kd.Q_nil _ _ _ _ _ | exact Kd.S_nil _ _ _ _ _⟩, ⟨by repeat (first | (with_reducible first | exact HB.out | apply below_alloc | apply pw_below_drewN | apply below_drew1) | exact HB.out)⟩⟩
      case round =>
        clear H'
        try clear p2
        try clear c3
        try clear c3b0
        try clear p2
        obtain ⟨x3_2, x4_2, rfl, HA, HK2, HO_4, HB⟩ := hrel
        cases gk with
        | zero => exact absurd HA.out (by simp [trammelref0_Decimal.l0])
        | succ k2 =>
          have H := HA.out
          clear HA
          simp only [trammelref0_Decimal.l0] at H
          by_cases c4 : x3_2 > 0
          · rw [if_pos c4] at H
            have c4b0 : decide (0 < x3_2) = true := decide_eq_true c4
            clear c4
            obtain ⟨y255, hy255⟩ : ∃ y_ : List Int, y_ = (([(IntKind.u64.wrap (48 + (Int.tmod x3_2 10))) % 256] : List Int)) := ⟨_, rfl⟩
            replace H : (if y255.length + x4_2.length < 140737488355328 then (trammelref0_Decimal.l0 k2 a0 (IntKind.u64.wrap (Int.tdiv x3_2 10)) (y255 ++ x4_2)) else (none)) = some r := by first | (rw [hy255]; with_reducible exact H) | (have H2_ := (Option.bind_some _ _).symm.trans H; rw [hy255]; with_reducible exact H2_) | (have H2_ := (Option.bind_some _ _).symm.trans H; with_reducible exact H2_) | with_reducible exact H | (rw [hy255]; exact H) | exact H
            have Ny255 := Aside0.mk hy255
            clear hy255
            by_cases c5 : y255.length + x4_2.length < 140737488355328
            · rw [if_pos c5] at H
              have LMc5 := Aside0.mk c5
              clear c5
              obtain ⟨y258, hy258⟩ : ∃ y_ : List Int, y_ = (y255 ++ x4_2) := ⟨_, rfl⟩
              replace H : (trammelref0_Decimal.l0 k2 a0 (IntKind.u64.wrap (Int.tdiv x3_2 10)) y258) = some r := by first | (rw [hy258]; with_reducible exact H) | (have H2_ := (Option.bind_some _ _).symm.trans H; rw [hy258]; with_reducible exact H2_) | (have H2_ := (Option.bind_some _ _).symm.trans H; with_reducible exact H2_) | with_reducible exact H | (rw [hy258]; exact H) | exact H
              have Ny258 := Aside0.mk hy258
              clear hy258
              have H' := Aside0.mk H
              clear H
              go_wp2_with (first | ((with_reducible refine gate_dst (N := 25) rfl ?_); (try (refine gate_guard (by rfl) ?_; dsimp only)); refine Kd.R_lit (Kd.int .u8) _ 5 ?hg (N := 25) ?hd (xs := ([(IntKind.u64.wrap (48 + (Int.tmod x3_2 10))) % 256] : List Int)) (inner := [.int .u8 ((IntKind.u64.wrap (48 + (Int.tmod x3_2 10))) % 256)]) (ok := fun _ => True) (okp := fun _ => True) ?hr ?hp (fun _ hk => hk) trivial (Below.refl _ _) (Nat.le_refl _) (by simp) ?_; (case hd => rfl); (case hg => rfl); (case hr => first | (go_simp; done) | (go_simp; rfl)); (case hp => exact (Reps.one (show Kd.M (Kd.int .u8) _ _ _ ((IntKind.u64.wrap (48 + (Int.tmod x3_2 10))) % 256) [.int .u8 ((IntKind.u64.wrap (48 + (Int.tmod x3_2 10))) % 256)] from rfl) (Reps.none _ _))); intro v256 w6 ho7 hb hg_ hnew_; clear hg_ hnew_; (first | rw [← Ny255.out] at ho7 | (simp only [Int.reduceToNat] at ho7; rw [← Ny255.out] at ho7)); have n0_ := Aside0.mk (Kd.R_elder' (by (with_reducible repeat (first | apply Kd.R_alloc | apply Kd.R_drewN | apply Kd.R_drew)); exact HO_4.out) (Kd.R_base ho7) hb); have n1_ := Aside0.mk (Kd.R_lower (Kd.R_new' ho7 (Kd.R_lt (by (with_reducible repeat (first | apply Kd.R_alloc | apply Kd.R_drewN | apply Kd.R_drew)); exact HO_4.out))) (below_size (by repeat (first | (with_reducible first | exact HB.out | apply below_alloc | apply pw_below_drewN | apply below_drew1) | exact HB.out)))); have n2_ := Aside0.mk (below_step (by repeat (first | (with_reducible first | exact HB.out | apply below_alloc | apply pw_below_drewN | apply below_drew1) | exact HB.out)) hb); clear HO_4; clear HB; have HO_4 := n0_; have HO257 := n1_; have HB := n2_; clear n0_ n1_ n2_; clear hb ho7; obtain ⟨Ao9, co9, eo9⟩ := Kd.R_slice HO_4.out; subst eo9) | ((with_reducible refine gate_builtin (b := .append) (xs := #[.tmp 25, .tmp 26]) rfl ?_); (try (refine gate_guard (by rfl) ?_; dsimp only)); at_builtin; refine Kd.R_append_rows (Kd.int .u8) (w0 := w) w.heap.size rfl (.tmp 25) (.tmp 26) 65 5 (.int .u8 0) 1 rfl Tryd.underlying65 info5 rfl (by decide) (by omega) v256 y255 x4_2 _ _ _ (fun k_ => some k_ ≠ (.slice Ao9 x4_2.length co9 : Value).ownBlock) (fun _ => False) rfl rfl ?aO ?aR (fun _ _ h => h) (fun _ h => h.elim) ?aF ?aB ?aS ?aL ?_; (case aR => repeat (first | exact (Kd.R_reads' HO_4.out).2.2 | (with_reducible refine Kd.C_alloc ?_ _) | (with_reducible refine Kd.C_drewN ?_ _) | (with_reducible refine Kd.C_drew ?_))); (case aB => exact (by repeat (first | (with_reducible first | exact HB.out | apply below_alloc | apply pw_below_drewN | apply below_drew1) | exact HB.out))); (case aF => exact (fun k_ hk => Kd.fresh' (Kd.R_lt (by (with_reducible repeat (first | apply Kd.R_alloc | apply Kd.R_drewN | apply Kd.R_drew)); exact HO_4.out)) k_ hk)); (case aO => exact (by (with_reducible repeat (first | apply Kd.R_alloc | apply Kd.R_drewN | apply Kd.R_drew)); exact Kd.R_mono HO257.out (fun _ hk => hk.2))); (case aS => exact (below_size (by repeat (first | (with_reducible first | exact HB.out | apply below_alloc | apply pw_below_drewN | apply below_drew1) | exact HB.out)))); (case aL => have := LMc5.out; omega); intro v259 w8 ho hb hg hat; rw [← Ny258.out] at ho; have n0_ := Aside0.mk (Kd.R_after (ok := (fun _ => True)) (by (with_reducible repeat (first | apply Kd.R_alloc | apply Kd.R_drewN | apply Kd.R_drew)); exact HO_4.out) hg hat); have n1_ := Aside0.mk (hb); have n2_ := Aside0.mk (ho); clear HO_4; clear HB; clear HO257; have HO_4 := n0_; have HB := n1_; have HO260 := n2_; clear n0_ n1_ n2_; clear ho hb hg hat))
              go_roundg k2
              case measure => have := HJ1.out; have := HK2.out; omega
              case rel => exact ⟨(IntKind.u64.wrap (Int.tdiv x3_2 10)), (y258), (by first | rfl | (simp; done) | (simp [*]; done)), H', ⟨by have := HJ1.out; have := HK2.out; omega⟩, ⟨by (with_reducible repeat (first | apply Kd.R_alloc | apply Kd.R_drewN | apply Kd.R_drew)); exact Kd.R_mono HO260.out (fun _ hk => trivial)⟩, ⟨by repeat (first | (with_reducible first | exact HB.out | apply below_alloc | apply pw_below_drewN | apply below_drew1) | exact HB.out)⟩⟩
            · rw [if_neg c5] at H
              exact absurd H (by simp)
          · rw [if_neg c4] at H
            have c4b0 : decide (0 < x3_2) = false := decide_eq_false c4
            clear c4
            by_cases c10 : (x4_2.length : Int) = 0
            · rw [if_pos c10] at H
              have c10b0 : ((x4_2.length : Int) == 0) = true := beq_iff_eq.mpr c10
              have c10b1 : ((x4_2.length : Int) != 0) = false := bne_eq_false_iff_eq.mpr c10
              clear c10
              obtain ⟨y261, hy261⟩ : ∃ y_ : List Int, y_ = (([(IntKind.u64.wrap (48 + (Int.tmod x3_2 10))) % 256] : List Int)) := ⟨_, rfl⟩
              replace H : (if y261.length + x4_2.length < 140737488355328 then (trammelref0_Decimal.l0 k2 a0 (IntKind.u64.wrap (Int.tdiv x3_2 10)) (y261 ++ x4_2)) else (none)) = some r := by first | (rw [hy261]; with_reducible exact H) | (have H2_ := (Option.bind_some _ _).symm.trans H; rw [hy261]; with_reducible exact H2_) | (have H2_ := (Option.bind_some _ _).symm.trans H; with_reducible exact H2_) | with_reducible exact H | (rw [hy261]; exact H) | exact H
              have Ny261 := Aside0.mk hy261
              clear hy261
              by_cases c11 : y261.length + x4_2.length < 140737488355328
              · rw [if_pos c11] at H
                have LMc11 := Aside0.mk c11
                clear c11
                obtain ⟨y264, hy264⟩ : ∃ y_ : List Int, y_ = (y261 ++ x4_2) := ⟨_, rfl⟩
                replace H : (trammelref0_Decimal.l0 k2 a0 (IntKind.u64.wrap (Int.tdiv x3_2 10)) y264) = some r := by first | (rw [hy264]; with_reducible exact H) | (have H2_ := (Option.bind_some _ _).symm.trans H; rw [hy264]; with_reducible exact H2_) | (have H2_ := (Option.bind_some _ _).symm.trans H; with_reducible exact H2_) | with_reducible exact H | (rw [hy264]; exact H) | exact H
                have Ny264 := Aside0.mk hy264
                clear hy264
                have H' := Aside0.mk H
                clear H
                obtain ⟨Ao12, co12, eo12⟩ := Kd.R_slice HO_4.out
                subst eo12
                go_wp2_with (first | ((with_reducible refine gate_dst (N := 25) rfl ?_); (try (refine gate_guard (by rfl) ?_; dsimp only)); refine Kd.R_lit (Kd.int .u8) _ 5 ?hg (N := 25) ?hd (xs := ([(IntKind.u64.wrap (48 + (Int.tmod x3_2 10))) % 256] : List Int)) (inner := [.int .u8 ((IntKind.u64.wrap (48 + (Int.tmod x3_2 10))) % 256)]) (ok := fun _ => True) (okp := fun _ => True) ?hr ?hp (fun _ hk => hk) trivial (Below.refl _ _) (Nat.le_refl _) (by simp) ?_; (case hd => rfl); (case hg => rfl); (case hr => first | (go_simp; done) | (go_simp; rfl)); (case hp => exact (Reps.one (show Kd.M (Kd.int .u8) _ _ _ ((IntKind.u64.wrap (48 + (Int.tmod x3_2 10))) % 256) [.int .u8 ((IntKind.u64.wrap (48 + (Int.tmod x3_2 10))) % 256)] from rfl) (Reps.none _ _))); intro v262 w13 ho14 hb hg_ hnew_; clear hg_ hnew_; (first | rw [← Ny261.out] at ho14 | (simp only [Int.reduceToNat] at ho14; rw [← Ny261.out] at ho14)); have n0_ := Aside0.mk (Kd.R_elder' (by (with_reducible repeat (first | apply Kd.R_alloc | apply Kd.R_drewN | apply Kd.R_drew)); exact HO_4.out) (Kd.R_base ho14) hb); have n1_ := Aside0.mk (Kd.R_lower (Kd.R_new' ho14 (Kd.R_lt (by (with_reducible repeat (first | apply Kd.R_alloc | apply Kd.R_drewN | apply Kd.R_drew)); exact HO_4.out))) (below_size (by repeat (first | (with_reducible first | exact HB.out | apply below_alloc | apply pw_below_drewN | apply below_drew1) | exact HB.out)))); have n2_ := Aside0.mk (below_step (by repeat (first | (with_reducible first | exact HB.out | apply below_alloc | apply pw_below_drewN | apply below_drew1) | exact HB.out)) hb); clear HO_4; clear HB; have HO_4 := n0_; have HO263 := n1_; have HB := n2_; clear n0_ n1_ n2_; clear hb ho14) | ((with_reducible refine gate_builtin (b := .append) (xs := #[.tmp 25, .tmp 26]) rfl ?_); (try (refine gate_guard (by rfl) ?_; dsimp only)); at_builtin; refine Kd.R_append_rows (Kd.int .u8) (w0 := w) w.heap.size rfl (.tmp 25) (.tmp 26) 65 5 (.int .u8 0) 1 rfl Tryd.underlying65 info5 rfl (by decide) (by omega) v262 y261 x4_2 _ _ _ (fun k_ => some k_ ≠ (.slice Ao12 x4_2.length co12 : Value).ownBlock) (fun _ => False) rfl rfl ?aO ?aR (fun _ _ h => h) (fun _ h => h.elim) ?aF ?aB ?aS ?aL ?_; (case aR => repeat (first | exact (Kd.R_reads' HO_4.out).2.2 | (with_reducible refine Kd.C_alloc ?_ _) | (with_reducible refine Kd.C_drewN ?_ _) | (with_reducible refine Kd.C_drew ?_))); (case aB => exact (by repeat (first | (with_reducible first | exact HB.out | apply below_alloc | apply pw_below_drewN | apply below_drew1) | exact HB.out))); (case aF => exact (fun k_ hk => Kd.fresh' (Kd.R_lt (by (with_reducible repeat (first | apply Kd.R_alloc | apply Kd.R_drewN | apply Kd.R_drew)); exact HO_4.out)) k_ hk)); (case aO => exact (by (with_reducible repeat (first | apply Kd.R_alloc | apply Kd.R_drewN | apply Kd.R_drew)); exact Kd.R_mono HO263.out (fun _ hk => hk.2))); (case aS => exact (below_size (by repeat (first | (with_reducible first | exact HB.out | apply below_alloc | apply pw_below_drewN | apply below_drew1) | exact HB.out)))); (case aL => have := LMc11.out; omega); intro v265 w15 ho hb hg hat; rw [← Ny264.out] at ho; have n0_ := Aside0.mk (Kd.R_after (ok := (fun _ => True)) (by (with_reducible repeat (first | apply Kd.R_alloc | apply Kd.R_drewN | apply Kd.R_drew)); exact HO_4.out) hg hat); have n1_ := Aside0.mk (hb); have n2_ := Aside0.mk (ho); clear HO_4; clear HB; clear HO263; have HO_4 := n0_; have HB := n1_; have HO266 := n2_; clear n0_ n1_ n2_; clear ho hb hg hat))
                go_roundg k2
                case measure => have := HJ1.out; have := HK2.out; omega
                case rel => exact ⟨(IntKind.u64.wrap (Int.tdiv x3_2 10)), (y264), (by first | rfl | (simp; done) | (simp [*]; done)), H', ⟨by have := HJ1.out; have := HK2.out; omega⟩, ⟨by (with_reducible repeat (first | apply Kd.R_alloc | apply Kd.R_drewN | apply Kd.R_drew)); exact Kd.R_mono HO266.out (fun _ hk => trivial)⟩, ⟨by repeat (first | (with_reducible first | exact HB.out | apply below_alloc | apply pw_below_drewN | apply below_drew1) | exact HB.out)⟩⟩
              · rw [if_neg c11] at H
                exact absurd H (by simp)
            · rw [if_neg c10] at H
              have c10b0 : ((x4_2.length : Int) == 0) = false := beq_eq_false_iff_ne.mpr c10
              have c10b1 : ((x4_2.length : Int) != 0) = true := bne_iff_ne.mpr c10
              have c10b2 : ¬ (x4_2 = []) := fun h_ => c10 (by rw [h_]; rfl)
              by_cases c16 : a0 < 0
              · rw [if_pos c16] at H
                have c16b0 : decide (a0 < 0) = true := decide_eq_true c16
                clear c16
                obtain ⟨y267, hy267⟩ : ∃ y_ : List Int, y_ = (([45] : List Int)) := ⟨_, rfl⟩
                replace H : (if y267.length + x4_2.length < 140737488355328 then (some (strOfNums (y267 ++ x4_2))) else (none)) = some r := by first | (rw [hy267]; with_reducible exact H) | (have H2_ := (Option.bind_some _ _).symm.trans H; rw [hy267]; with_reducible exact H2_) | (have H2_ := (Option.bind_some _ _).symm.trans H; with_reducible exact H2_) | with_reducible exact H | (rw [hy267]; exact H) | exact H
                have Ny267 := Aside0.mk hy267
                clear hy267
                by_cases c17 : y267.length + x4_2.length < 140737488355328
                · rw [if_pos c17] at H
                  have LMc17 := Aside0.mk c17
                  clear c17
                  obtain ⟨y270, hy270⟩ : ∃ y_ : List Int, y_ = (y267 ++ x4_2) := ⟨_, rfl⟩
                  replace H : (some (strOfNums y270)) = some r := by first | (rw [hy270]; with_reducible exact H) | (have H2_ := (Option.bind_some _ _).symm.trans H; rw [hy270]; with_reducible exact H2_) | (have H2_ := (Option.bind_some _ _).symm.trans H; with_reducible exact H2_) | with_reducible exact H | (rw [hy270]; exact H) | exact H
                  have Ny270 := Aside0.mk hy270
                  clear hy270
                  obtain rfl := Option.some.inj H
                  obtain ⟨Ao18, co18, eo18⟩ := Kd.R_slice HO_4.out
                  subst eo18
                  go_wp2_with (first | ((with_reducible refine gate_dst (N := 32) rfl ?_); (try (refine gate_guard (by rfl) ?_; dsimp only)); refine Kd.R_lit (Kd.int .u8) _ 5 ?hg (N := 32) ?hd (xs := ([45] : List Int)) (inner := [.int .u8 45]) (ok := fun _ => True) (okp := fun _ => True) ?hr ?hp (fun _ hk => hk) trivial (Below.refl _ _) (Nat.le_refl _) (by simp) ?_; (case hd => rfl); (case hg => rfl); (case hr => first | (go_simp; done) | (go_simp; rfl)); (case hp => exact (Reps.one (show Kd.M (Kd.int .u8) _ _ _ 45 [.int .u8 45] from rfl) (Reps.none _ _))); intro v268 w19 ho20 hb hg_ hnew_; clear hg_ hnew_; (first | rw [← Ny267.out] at ho20 | (simp only [Int.reduceToNat] at ho20; rw [← Ny267.out] at ho20)); have n0_ := Aside0.mk (Kd.R_elder' (by (with_reducible repeat (first | apply Kd.R_alloc | apply Kd.R_drewN | apply Kd.R_drew)); exact HO_4.out) (Kd.R_base ho20) hb); have n1_ := Aside0.mk (Kd.R_lower (Kd.R_new' ho20 (Kd.R_lt (by (with_reducible repeat (first | apply Kd.R_alloc | apply Kd.R_drewN | apply Kd.R_drew)); exact HO_4.out))) (below_size (by repeat (first | (with_reducible first | exact HB.out | apply below_alloc | apply pw_below_drewN | apply below_drew1) | exact HB.out)))); have n2_ := Aside0.mk (below_step (by repeat (first | (with_reducible first | exact HB.out | apply below_alloc | apply pw_below_drewN | apply below_drew1) | exact HB.out)) hb); clear HO_4; clear HB; have HO_4 := n0_; have HO269 := n1_; have HB := n2_; clear n0_ n1_ n2_; clear hb ho20) | ((with_reducible refine gate_builtin (b := .append) (xs := #[.tmp 32, .tmp 33]) rfl ?_); (try (refine gate_guard (by rfl) ?_; dsimp only)); at_builtin; refine Kd.R_append_rows (Kd.int .u8) (w0 := w) w.heap.size rfl (.tmp 32) (.tmp 33) 65 5 (.int .u8 0) 1 rfl Tryd.underlying65 info5 rfl (by decide) (by omega) v268 y267 x4_2 _ _ _ (fun k_ => some k_ ≠ (.slice Ao18 x4_2.length co18 : Value).ownBlock) (fun _ => False) rfl rfl ?aO ?aR (fun _ _ h => h) (fun _ h => h.elim) ?aF ?aB ?aS ?aL ?_; (case aR => repeat (first | exact (Kd.R_reads' HO_4.out).2.2 | (with_reducible refine Kd.C_alloc ?_ _) | (with_reducible refine Kd.C_drewN ?_ _) | (with_reducible refine Kd.C_drew ?_))); (case aB => exact (by repeat (first | (with_reducible first | exact HB.out | apply below_alloc | apply pw_below_drewN | apply below_drew1) | exact HB.out))); (case aF => exact (fun k_ hk => Kd.fresh' (Kd.R_lt (by (with_reducible repeat (first | apply Kd.R_alloc | apply Kd.R_drewN | apply Kd.R_drew)); exact HO_4.out)) k_ hk)); (case aO => exact (by (with_reducible repeat (first | apply Kd.R_alloc | apply Kd.R_drewN | apply Kd.R_drew)); exact Kd.R_mono HO269.out (fun _ hk => hk.2))); (case aS => exact (below_size (by repeat (first | (with_reducible first | exact HB.out | apply below_alloc | apply pw_below_drewN | apply below_drew1) | exact HB.out)))); (case aL => have := LMc17.out; omega); intro v271 w21 ho hb hg hat; rw [← Ny270.out] at ho; have n0_ := Aside0.mk (Kd.R_after (ok := (fun _ => True)) (by (with_reducible repeat (first | apply Kd.R_alloc | apply Kd.R_drewN | apply Kd.R_drew)); exact HO_4.out) hg hat); have n1_ := Aside0.mk (hb); have n2_ := Aside0.mk (ho); clear HO_4; clear HB; clear HO269; have HO_4 := n0_; have HB := n1_; have HO272 := n2_; clear n0_ n1_ n2_; clear ho hb hg hat; have hcv22 := own_string (P := Tryd.prog) Tryd.underlying65 Tryd.underlying5 Tryd.underlying9 (Kd.own_of_R HO272.out)))
                  go_ret
                  exact ⟨by first | rfl | (simp [errW_none, errW_some] <;> rfl) | (simp [*, errW_none, errW_some] <;> rfl), by repeat (first | (with_reducible first | exact HB.out | apply below_alloc | apply pw_below_drewN | apply below_drew1) | exact HB.out)⟩
                · rw [if_neg c17] at H
                  exact absurd H (by simp)
              · rw [if_neg c16] at H
                have c16b0 : decide (a0 < 0) = false := decide_eq_false c16
                clear c16
                obtain rfl := Option.some.inj H
                obtain ⟨Ao23, co23, eo23⟩ := Kd.R_slice HO_4.out
                subst eo23
                have hcv24 := own_string (P := Tryd.prog) Tryd.underlying65 Tryd.underlying5 Tryd.underlying9 (Kd.own_of_R HO_4.out)
                go_wp2
                go_ret
                exact ⟨by first | rfl | (simp [errW_none, errW_some] <;> rfl) | (simp [*, errW_none, errW_some] <;> rfl), by repeat (first | (with_reducible first | exact HB.out | apply below_alloc | apply pw_below_drewN | apply below_drew1) | exact HB.out)⟩

end Go.Proofs.YtnogfhhfklkbiaaDoor.H

set_option linter.unusedVariables false
set_option linter.unusedSimpArgs false
set_option maxHeartbeats 1000000
namespace Go.Proofs.YtnogfhhfklkbiaaDoor.H
open Go.RowKit Go.Proofs.YtnogfhhfklkbiaaDoorW.PrintWords Go.Proofs.YtnogfhhfklkbiaaDoorW.PrintLast Go.Proofs.YtnogfhhfklkbiaaDoorW.PrintMore
open Go.Proofs.YtnogfhhfklkbiaaDoor.Src

/-- The digits, with so many rounds. -/
def decS : Nat → Nat → List UInt8
  | 0, _ => []
  | f + 1, n => if n = 0 then [] else decS f (n / 10) ++ [UInt8.ofNat (48 + n % 10)]
def dec (n : Nat) : List UInt8 := if n = 0 then [48] else decS 20 n
theorem digit_byte (n : Nat) : (UInt8.ofNat (48 + n % 10)).toNat = 48 + n % 10 := by
  simp
  omega
theorem decS_num : ∀ f n, n < 10 ^ f → numV (decS f n) = n
  | 0, n, h => by
    have : n = 0 := by simpa using h
    subst this
    rfl
  | f + 1, n, h => by
    unfold decS
    by_cases h0 : n = 0
    · rw [if_pos h0, h0]
      rfl
    · rw [if_neg h0, numV_snoc, decS_num f (n / 10) (by rw [Nat.pow_succ] at h; omega), digit_byte]
      omega
theorem decS_dig : ∀ f n, (decS f n).all isDig = true
  | 0, n => rfl
  | f + 1, n => by
    unfold decS
    by_cases h0 : n = 0
    · rw [if_pos h0]
      rfl
    · rw [if_neg h0, List.all_append, decS_dig f (n / 10), Bool.true_and]
      simp only [List.all_cons, List.all_nil, Bool.and_true, isDig, digit_byte]
      rw [decide_eq_true (by omega), decide_eq_true (by omega)]
      rfl
theorem decS_head : ∀ f n, 0 < n → n < 10 ^ f → ∃ c r, decS f n = c :: r ∧ c ≠ 48
  | 0, n, h0, h => by
    simp at h
    omega
  | f + 1, n, h0, h => by
    unfold decS
    rw [if_neg (by omega)]
    by_cases hq : n / 10 = 0
    · have e : decS f (n / 10) = [] := by rw [hq]; cases f <;> simp [decS]
      rw [e]
      refine ⟨_, _, rfl, fun hc => ?_⟩
      have := congrArg UInt8.toNat hc
      rw [digit_byte] at this
      have h48 : (48 : UInt8).toNat = 48 := rfl
      omega
    · obtain ⟨c, r, e, hc⟩ := decS_head f (n / 10) (by omega) (by rw [Nat.pow_succ] at h; omega)
      rw [e]
      exact ⟨c, r ++ [UInt8.ofNat (48 + n % 10)], rfl, hc⟩
theorem decS_len : ∀ f n, (decS f n).length ≤ f
  | 0, n => Nat.le_refl _
  | f + 1, n => by
    unfold decS
    split
    · simp
    · rw [List.length_append, List.length_singleton]
      have := decS_len f (n / 10)
      omega
theorem dec_num (n : Nat) (h : n < 10 ^ 20) : numV (dec n) = n := by
  unfold dec
  by_cases h0 : n = 0
  · rw [if_pos h0, h0]
    rfl
  · rw [if_neg h0]
    exact decS_num 20 n h
theorem dec_dig (n : Nat) : (dec n).all isDig = true := by
  unfold dec
  split
  · rfl
  · exact decS_dig 20 n
theorem dec_len (n : Nat) : (dec n).length ≤ 20 := by
  unfold dec
  split
  · simp
  · exact decS_len 20 n
theorem dec_cons (n : Nat) (h : n < 10 ^ 20) : ∃ c r, dec n = c :: r ∧ isDig c = true ∧ (r = [] ∨ c ≠ 48) := by
  have hd := dec_dig n
  unfold dec at hd ⊢
  by_cases h0 : n = 0
  · rw [if_pos h0]
    exact ⟨48, [], rfl, rfl, .inl rfl⟩
  · rw [if_neg h0] at hd ⊢
    obtain ⟨c, r, e, hc⟩ := decS_head 20 n (by omega) h
    rw [e] at hd
    rw [List.all_cons, Bool.and_eq_true] at hd
    exact ⟨c, r, e, hd.1, .inr hc⟩
theorem dec_ok (n : Nat) (h : n < 10 ^ 20) : numOk (dec n) = decide (n ≤ 1073741823) := by
  obtain ⟨c, r, e, _, hc⟩ := dec_cons n h
  have hz : (decide ((dec n).length ≤ 1) || (dec n).head? != some 48) = true := by
    rw [e]
    rcases hc with hc | hc
    · rw [hc]; rfl
    · simp [hc]
  unfold numOk
  rw [dec_dig, hz, dec_num n h, Bool.true_and, Bool.true_and]
theorem nums_ba (l : List UInt8) : strOfNums (l.map fun c => (c.toNat : Int)) = ba l := by
  unfold strOfNums ba
  rw [List.map_map]
  congr 1
  congr 1
  conv => rhs; rw [← List.map_id l]
  apply List.map_congr_left
  intro c _
  simp
theorem dec_loop : ∀ (f n k : Nat) (acc : List UInt8) (x0 : Int), 0 ≤ x0 → n < 10 ^ f → n < 18446744073709551616 → acc.length + f ≤ 20 → f < k → (acc = [] → n ≠ 0) →
    trammelref0_Decimal.l0 k x0 (n : Int) (acc.map fun c => (c.toNat : Int)) = some (ba (decS f n ++ acc)) := by
  intro f
  induction f with
  | zero =>
    intro n k acc x0 h0 hn hb ha hk hne
    obtain ⟨k, rfl⟩ : ∃ m, k = m + 1 := ⟨k - 1, by omega⟩
    have : n = 0 := by simpa using hn
    subst this
    simp only [trammelref0_Decimal.l0]
    have hne' : ¬ ((acc.map fun c => (c.toNat : Int)).length : Int) = 0 := by
      rw [List.length_map]
      intro h
      exact hne (List.eq_nil_of_length_eq_zero (by omega)) rfl
    rw [if_neg (by decide), if_neg hne', if_neg (by omega), nums_ba]
    rfl
  | succ f ih =>
    intro n k acc x0 h0 hn hb ha hk hne
    obtain ⟨k, rfl⟩ : ∃ m, k = m + 1 := ⟨k - 1, by omega⟩
    simp only [trammelref0_Decimal.l0]
    by_cases hz : n = 0
    · subst hz
      have hne' : ¬ ((acc.map fun c => (c.toNat : Int)).length : Int) = 0 := by
        rw [List.length_map]
        intro h
        exact hne (List.eq_nil_of_length_eq_zero (by omega)) rfl
      rw [if_neg (by decide), if_neg hne', if_neg (by omega), nums_ba]
      simp [decS]
    · have d1 : (IntKind.u64.wrap (48 + (Int.tmod (n : Int) 10))) % 256 = ((UInt8.ofNat (48 + n % 10)).toNat : Int) := by
        rw [digit_byte, Bits.u64_wrap, Int.tmod_eq_emod_of_nonneg (by omega)]
        omega
      have d2 : IntKind.u64.wrap (Int.tdiv (n : Int) 10) = ((n / 10 : Nat) : Int) := by
        rw [Bits.u64_wrap, Int.tdiv_eq_ediv_of_nonneg (by omega)]
        omega
      rw [if_pos (by omega), Option.bind_some, if_pos (by simp; omega), d1, d2]
      by_cases hl : f = 0
      · subst hl
        have hn9 : n < 10 := by simpa using hn
        have e : n / 10 = 0 := by omega
        obtain ⟨k, rfl⟩ : ∃ m, k = m + 1 := ⟨k - 1, by omega⟩
        rw [e]
        simp only [trammelref0_Decimal.l0]
        rw [if_neg (by decide), if_neg (by simp; omega), if_neg (by omega)]
        have := nums_ba (UInt8.ofNat (48 + n % 10) :: acc)
        rw [List.map_cons] at this
        rw [List.singleton_append, this]
        simp [decS, hz]
      · have := ih (n / 10) k (UInt8.ofNat (48 + n % 10) :: acc) x0 h0 (by rw [Nat.pow_succ] at hn; omega) (by omega) (by simp; omega) (by omega) (fun h => by cases h)
        rw [List.map_cons] at this
        rw [List.singleton_append, this]
        unfold decS
        rw [if_neg hz]
        cases f with
        | zero => exact (hl rfl).elim
        | succ f => simp [decS]
theorem decimal_zero : trammelref0_Decimal.f 10 0 = some (ba (dec 0)) := by decide +kernel
theorem decimal_is (n : Nat) (h : n < 9223372036854775808) (k : Nat) (hk : 30 ≤ k) : trammelref0_Decimal.f k (n : Int) = some (ba (dec n)) := by
  by_cases h0 : n = 0
  · subst h0
    exact at_rounds (trammelref0_Decimal.mono 0) (by omega) decimal_zero
  · obtain ⟨k, rfl⟩ : ∃ m, k = m + 1 := ⟨k - 1, by omega⟩
    unfold trammelref0_Decimal.f
    have hw : IntKind.u64.wrap (n : Int) = (n : Int) := by rw [Bits.u64_wrap]; omega
    rw [if_neg (by omega), hw]
    simp only [trammelref0_Decimal.j0]
    have := dec_loop 20 n k [] (n : Int) (by omega) (by omega) (by omega) (by simp) (by omega) (fun _ => h0)
    rw [List.map_nil, List.append_nil] at this
    rw [this]
    unfold dec
    rw [if_neg h0]
theorem foldl_bigD (r : List UInt8) : ∀ x : Nat, x * 10 ^ r.length ≤ r.foldl (fun x c => 10 * x + (c.toNat - 48)) x := by
  induction r with
  | nil => intro x; simp
  | cons c r ih =>
    intro x
    have h := ih (10 * x + (c.toNat - 48))
    rw [List.foldl_cons]
    refine Nat.le_trans ?_ h
    rw [List.length_cons, Nat.pow_succ]
    calc x * (10 ^ r.length * 10) = (10 * x) * 10 ^ r.length := by rw [Nat.mul_comm (10 ^ r.length) 10, ← Nat.mul_assoc, Nat.mul_comm x 10]
      _ ≤ _ := Nat.mul_le_mul_right _ (by omega)
theorem big_long (l : List UInt8) (h : 10 < l.length) (hd : l.all isDig = true) (h48 : l.head? ≠ some 48) : 1073741823 < numV l := by
  cases l with
  | nil => simp at h
  | cons c r =>
    rw [List.all_cons, Bool.and_eq_true] at hd
    have hc := dig_of hd.1
    have hc1 : 1 ≤ c.toNat - 48 := by
      have : c.toNat ≠ 48 := fun e => h48 (by
        rw [List.head?_cons]
        congr 1
        exact UInt8.toNat_inj.1 (by rw [e]; rfl))
      omega
    have hb := foldl_bigD r (c.toNat - 48)
    have e : numV (c :: r) = r.foldl (fun x c => 10 * x + (c.toNat - 48)) (c.toNat - 48) := by
      unfold numV
      rw [List.foldl_cons]
      congr 1
      omega
    rw [e]
    have hp : 10 ^ 10 ≤ 10 ^ r.length := Nat.pow_le_pow_right (by decide) (by simp at h; omega)
    have hq : 1 * 10 ^ r.length ≤ (c.toNat - 48) * 10 ^ r.length := Nat.mul_le_mul_right _ hc1
    have : (10 : Nat) ^ 10 = 10000000000 := by decide
    omega
/-- A number that may be is read as itself. -/
theorem num_dec (l : List UInt8) (h : numOk l = true) (hne : l ≠ []) : dec (numV l) = l := by
  have key : ∀ (d : Nat) (f : Nat) (l : List UInt8), l.length = d → l.all isDig = true → d ≤ f → (∃ c r, l = c :: r ∧ c ≠ 48) → decS f (numV l) = l := by
    intro d
    induction d with
    | zero =>
      intro f l hl hd hf hc
      obtain ⟨c, r, e, _⟩ := hc
      rw [e] at hl
      simp at hl
    | succ d ih =>
      intro f l hl hd hf hc
      obtain ⟨f, rfl⟩ : ∃ m, f = m + 1 := ⟨f - 1, by omega⟩
      obtain ⟨c, r, rfl, hc⟩ := hc
      have e := List.dropLast_concat_getLast (l := c :: r) (by simp)
      have hlen : (c :: r).dropLast.length = d := by rw [List.length_dropLast]; omega
      generalize hm : (c :: r).dropLast = m at *
      generalize hx : (c :: r).getLast (by simp) = x at *
      rw [← e] at hd
      rw [List.all_append, Bool.and_eq_true] at hd
      have hxd := dig_of (show isDig x = true by simpa using hd.2)
      rw [← e, numV_snoc]
      have hxx : UInt8.ofNat (48 + (10 * numV m + (x.toNat - 48)) % 10) = x := by
        apply UInt8.toNat_inj.1
        rw [digit_byte]
        omega
      have hdiv : (10 * numV m + (x.toNat - 48)) / 10 = numV m := by omega
      cases hmm : m with
      | nil =>
        rw [hmm] at e
        have hcx : c = x := by simp at e; exact e.1.symm
        have hx48 : x.toNat ≠ 48 := fun h48 => hc (by rw [hcx]; exact UInt8.toNat_inj.1 (by rw [h48]; rfl))
        unfold decS
        rw [hmm] at hxx hdiv
        rw [if_neg (by simp [numV]; omega), hdiv, hxx]
        have : decS f (numV ([] : List UInt8)) = [] := by cases f <;> simp [decS, numV]
        rw [this]
      | cons c2 r2 =>
        have hc2 : c2 = c := by
          rw [hmm] at e
          simp at e
          exact e.1
        have ihm := ih f m hlen hd.1 (by omega) ⟨c2, r2, hmm, by rw [hc2]; exact hc⟩
        have hpos : 0 < numV m := by
          rw [Nat.pos_iff_ne_zero]
          intro h0
          rw [h0] at ihm
          have : decS f 0 = [] := by cases f <;> simp [decS]
          rw [this, hmm] at ihm
          cases ihm
        rw [← hmm]
        unfold decS
        rw [if_neg (by omega), hdiv, hxx, ihm]
  unfold numOk at h
  rw [Bool.and_eq_true, Bool.and_eq_true, Bool.or_eq_true] at h
  obtain ⟨hd, hz, hm⟩ := h
  obtain ⟨c, r, rfl⟩ := List.exists_cons_of_ne_nil hne
  have hmax := of_decide_eq_true hm
  by_cases hc : c = 48
  · have hr : r = [] := by
      rcases hz with hz | hz
      · have := of_decide_eq_true hz
        simpa using this
      · rw [hc] at hz
        simp at hz
    subst hc; subst hr
    decide
  · have hlen : (c :: r).length ≤ 20 := by
      rcases Nat.lt_or_ge 10 (c :: r).length with hl | hl
      · exact absurd hmax (by
          have := big_long (c :: r) hl hd (by rw [List.head?_cons]; intro h; exact hc (Option.some.inj h))
          omega)
      · omega
    have hk := key _ 20 (c :: r) rfl hd hlen ⟨c, r, rfl, hc⟩
    unfold dec
    rw [if_neg, hk]
    intro h0
    rw [h0] at hk
    simp [decS] at hk
end Go.Proofs.YtnogfhhfklkbiaaDoor.H
