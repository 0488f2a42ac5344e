/- Several texts in one: contracts of functions of the program, and what they lean on. In part written by a program of this session over the kit's print, in part by hand. -/
import Derived.Laws.BitsLemmas
import Derived.RowKit
import Derived.Test.YtnogfhhfklkbiaaDoorL5
import Derived.Test.YtnogfhhfklkbiaaDoorL0
import Derived.Test.YtnogfhhfklkbiaaDoorL3
import Derived.Test.YtnogfhhfklkbiaaDoorL6
set_option linter.unusedVariables false
namespace Go.Proofs.YtnogfhhfklkbiaaDoor.Bits
open Go.RowKit

theorem wrap_i64_mem {n : Int} (h0 : 0 ≤ n) (h1 : n < 2 ^ 63) : IntKind.i64.wrap n = n := by
  rw [IntKind.wrap_i64]
  omega

/-- A mask of the low bits, of any number. -/
theorem and_mask (i : Nat) (hi : i ≤ 62) (x : Int) : bits .and .i64 x (2 ^ i - 1) = x % 2 ^ i := by
  have hpos : 0 < 2 ^ i := Nat.two_pow_pos i
  have hle : 2 ^ i ≤ 2 ^ 62 := Nat.pow_le_pow_right (by decide) hi
  have hc : ((2 : Int) ^ i - 1) = ((2 ^ i - 1 : Nat) : Int) := by
    rw [Int.natCast_sub hpos]; simp
  have e : bits .and .i64 x (2 ^ i - 1) = IntKind.i64.wrap (((x % ((2 ^ 64 : Nat) : Int)).toNat &&& (2 ^ i - 1) : Nat) : Int) := by
    rw [hc]
    have hb : (2 ^ i - 1) % 2 ^ IntKind.i64.bits = 2 ^ i - 1 := Nat.mod_eq_of_lt (by
      show 2 ^ i - 1 < 2 ^ 64
      omega)
    simp only [bits, BitVec.ofInt_natCast, BitVec.toNat_and, BitVec.toNat_ofNat, BitVec.toNat_ofInt, hb]
    rfl
  rw [e, Nat.and_two_pow_sub_one_eq_mod]
  have hlt : (x % ((2 ^ 64 : Nat) : Int)).toNat % 2 ^ i < 2 ^ i := Nat.mod_lt _ hpos
  rw [wrap_i64_mem (by omega) (by omega)]
  have hn : (0 : Int) ≤ x % ((2 ^ 64 : Nat) : Int) := Int.emod_nonneg _ (by decide)
  rw [Int.natCast_emod, Int.toNat_of_nonneg hn]
  have hd : ((2 : Int) ^ i) ∣ ((2 ^ 64 : Nat) : Int) := by
    refine ⟨((2 ^ (64 - i) : Nat) : Int), ?_⟩
    have : (2 : Nat) ^ 64 = 2 ^ i * 2 ^ (64 - i) := by rw [← Nat.pow_add]; congr 1; omega
    rw [this]
    simp
  rw [show ((2 ^ i : Nat) : Int) = (2 : Int) ^ i from by simp]
  exact Int.emod_emod_of_dvd x hd

theorem or_join (i : Nat) (x y : Int) (hi : i ≤ 62) (hx0 : 0 ≤ x) (hx : x % 2 ^ i = 0) (hx1 : x < 2 ^ 62) (hy0 : 0 ≤ y) (hy : y < 2 ^ i) : bits .or .i64 x y = x + y :=
  bits_join .i64 62 (by decide) (fun n h0 h1 => wrap_i64_mem h0 (by omega)) i x y hx0 hx hx1 hy0 hy (by
    have : (2 : Int) ^ i ≤ 2 ^ 62 := by exact_mod_cast (Nat.pow_le_pow_right (by decide) hi : (2:Nat) ^ i ≤ 2 ^ 62)
    omega)

theorem and63 (x : Int) : bits .and .i64 x 63 = x % 64 := and_mask 6 (by decide) x
theorem and127 (x : Int) : bits .and .i64 x 127 = x % 128 := and_mask 7 (by decide) x
theorem and1023 (x : Int) : bits .and .i64 x 1023 = x % 1024 := and_mask 10 (by decide) x
theorem and31 (x : Int) : bits .and .i64 x 31 = x % 32 := and_mask 5 (by decide) x
theorem and3 (x : Int) : bits .and .i64 x 3 = x % 4 := and_mask 2 (by decide) x
theorem and1 (x : Int) : bits .and .i64 x 1 = x % 2 := and_mask 1 (by decide) x
theorem and1073741823 (x : Int) : bits .and .i64 x 1073741823 = x % 1073741824 := and_mask 30 (by decide) x
theorem or128 (y : Int) (h0 : 0 ≤ y) (h1 : y < 64) : bits .or .i64 128 y = 128 + y := or_join 6 128 y (by decide) (by decide) (by decide) (by decide) h0 h1
theorem or192 (y : Int) (h0 : 0 ≤ y) (h1 : y < 64) : bits .or .i64 192 y = 192 + y := or_join 6 192 y (by decide) (by decide) (by decide) (by decide) h0 h1
theorem or224 (y : Int) (h0 : 0 ≤ y) (h1 : y < 32) : bits .or .i64 224 y = 224 + y := or_join 5 224 y (by decide) (by decide) (by decide) (by decide) h0 h1
theorem or240 (y : Int) (h0 : 0 ≤ y) (h1 : y < 16) : bits .or .i64 240 y = 240 + y := or_join 4 240 y (by decide) (by decide) (by decide) (by decide) h0 h1
theorem u64_wrap (x : Int) : IntKind.u64.wrap x = x % 18446744073709551616 := by
  simp [IntKind.wrap, IntKind.bits, IntKind.signed]
/-- 'int(uint(x) % m)'. -/
theorem u64_mod (x m : Int) (hm0 : 0 < m) (hm : m ≤ 4294967296) : wrap64 (Int.tmod (IntKind.u64.wrap x) m) = (x % 18446744073709551616) % m := by
  have h0 : 0 ≤ x % 18446744073709551616 := Int.emod_nonneg _ (by decide)
  rw [u64_wrap, Int.tmod_eq_emod_of_nonneg h0]
  have h1 := Int.emod_nonneg (x % 18446744073709551616) (b := m) (by omega)
  have h2 := Int.emod_lt_of_pos (x % 18446744073709551616) hm0
  unfold wrap64
  omega
end Go.Proofs.YtnogfhhfklkbiaaDoor.Bits

set_option linter.unusedVariables false
set_option linter.unusedSimpArgs false
set_option maxHeartbeats 1000000
namespace Go.Proofs.YtnogfhhfklkbiaaDoor.H
open Go.RowKit Go.Proofs.YtnogfhhfklkbiaaDoorW.PrintWords Go.Proofs.YtnogfhhfklkbiaaDoorW.PrintLast Go.Proofs.YtnogfhhfklkbiaaDoorW.PrintMore
open Go.Proofs.YtnogfhhfklkbiaaDoor.Src

theorem bind_lit {α β : Type} {a b : α} (h : a = b) (F : α → Option β) : (some a).bind F = F b := by rw [h]; rfl
theorem ba_app (l m : List UInt8) : ba l ++ ba m = ba (l ++ m) := by
  apply bytes_ext
  rw [ByteArray.data_append]
  simp [ba]
theorem consT_len {p : Nat} {t : Tk} {l : List UInt8} {x y : Lexed} (h : t.2.2.2.2.2 = none → x = y) : consT p t x = consT p t y := by
  unfold consT
  cases he : t.2.2.2.2.2 with
  | some e => rfl
  | none => rw [h he]
theorem lexL_fuel : ∀ f g p l, l.length ≤ f → l.length ≤ g → lexL f p l = lexL g p l := by
  intro f
  induction f with
  | zero =>
    intro g p l h1 h2
    have : l = [] := List.eq_nil_of_length_eq_zero (by omega)
    subst this
    cases g <;> rfl
  | succ f ih =>
    intro g p l h1 h2
    cases l with
    | nil => cases g <;> rfl
    | cons c r =>
      obtain ⟨g, rfl⟩ : ∃ m, g = m + 1 := ⟨g - 1, by simp at h2; omega⟩
      simp only [List.length_cons] at h1 h2
      rw [lexL, lexL]
      by_cases hb : isBlank c = true
      · rw [if_pos hb, if_pos hb]
        exact ih g _ _ (by omega) (by omega)
      · rw [if_neg hb, if_neg hb]
        by_cases h35 : c = 35
        · have hn1 : 1 ≤ cutN 10 (c :: r) := by rw [h35]; simp [cutN, List.takeWhile_cons]
          rw [if_pos h35, if_pos h35]
          exact ih g _ _ (by rw [List.length_drop]; simp only [List.length_cons]; omega) (by rw [List.length_drop]; simp only [List.length_cons]; omega)
        · rw [if_neg h35, if_neg h35]
          refine consT_len (l := r) (fun he => ?_)
          obtain ⟨n, hn, hn1, hn2⟩ := tokL_len (l := c :: r) (by simp) he
          rw [hn, Int.toNat_natCast]
          exact ih g _ _ (by rw [List.length_drop]; simp only [List.length_cons]; omega) (by rw [List.length_drop]; simp only [List.length_cons]; omega)
def lexA (p : Nat) (l : List UInt8) : Lexed := lexL l.length p l
theorem lexA_nil (p : Nat) : lexA p [] = ([], none) := rfl
theorem lexA_blank (p : Nat) (c : UInt8) (r : List UInt8) (h : isBlank c = true) : lexA p (c :: r) = lexA (p + 1) r := by
  unfold lexA
  rw [List.length_cons, lexL, if_pos h]
theorem lexA_remark (p : Nat) (r : List UInt8) : lexA p (35 :: r) = lexA (p + cutN 10 (35 :: r)) ((35 :: r).drop (cutN 10 (35 :: r))) := by
  unfold lexA
  have hn1 : 1 ≤ cutN 10 (35 :: r) := by simp [cutN, List.takeWhile_cons]
  rw [List.length_cons, lexL, if_neg (by decide), if_pos rfl]
  exact lexL_fuel _ _ _ _ (by rw [List.length_drop]; simp only [List.length_cons]; omega) (Nat.le_refl _)
theorem lexA_tok (p : Nat) (c : UInt8) (r : List UInt8) (h : isBlank c = false) (h35 : c ≠ 35) : lexA p (c :: r) = consT p (tokL (c :: r)) (lexA (p + (tokL (c :: r)).2.2.2.2.1.toNat) ((c :: r).drop (tokL (c :: r)).2.2.2.2.1.toNat)) := by
  unfold lexA
  rw [List.length_cons, lexL, if_neg (by rw [h]; decide), if_neg h35]
  refine consT_len (l := r) (fun he => ?_)
  obtain ⟨n, hn, hn1, hn2⟩ := tokL_len (l := c :: r) (by simp) he
  rw [hn, Int.toNat_natCast]
  exact lexL_fuel _ _ _ _ (by rw [List.length_drop]; simp only [List.length_cons]; omega) (Nat.le_refl _)
/-- Of bytes below 128 a text is always in UTF-8. -/
theorem bad_ascii (s : ByteArray) (h : ∀ i (hi : i < s.data.toList.length), s.data.toList[i].toNat < 128) (i : Nat) : bad s i = none := by
  have hl := list_size s
  have hw : ∀ i, i < s.size → wd s i = 1 := by
    intro i hi
    have hb := bt_list s i _ (List.getElem?_eq_getElem (show i < s.data.toList.length by omega))
    have h1 := h i (by omega)
    unfold wd wd5
    rw [hb, if_neg (by omega), if_pos (by omega)]
    rfl
  refine walk (s := s) (P := fun i => bad s i = none) ?_ ?_ ?_ i
  · intro i h
    exact bad_end h
  · intro i h h0
    rw [hw i h] at h0
    cases h0
  · intro i h h0 ih
    rw [bad_on h h0]
    exact ih
theorem lexS_ascii (l : List UInt8) (hl : l.length ≤ 4096) (h : l.all (fun c => decide (c.toNat < 128)) = true) : lexS (ba l) = lexA 0 l := by
  unfold lexS
  rw [ba_size, if_neg (by omega), bad_ascii (ba l) (fun i hi => by
    have := List.all_eq_true.1 h _ (List.getElem_mem hi)
    simpa using this)]
  rfl
theorem tokS_ascii (l : List UInt8) (hl : l.length ≤ 4096) (h : l.all (fun c => decide (c.toNat < 128)) = true) : tokS (ba l) = ((lexA 0 l).1, (told2 (lexA 0 l).2).1, (told2 (lexA 0 l).2).2) := by
  unfold tokS
  rw [lexS_ascii l hl h]
theorem more_ascii : ∀ c, isMore c = true → c.toNat < 128 := byte_all (P := fun c => isMore c = true → c.toNat < 128) (by decide +kernel)
theorem dig_ascii : ∀ c, isDig c = true → isMore c = true ∧ isBlank c = false ∧ c ≠ 35 ∧ c ≠ 95 := byte_all (P := fun c => isDig c = true → isMore c = true ∧ isBlank c = false ∧ c ≠ 35 ∧ c ≠ 95) (by decide +kernel)
theorem tw_app (q : UInt8 → Bool) : ∀ (l m : List UInt8), l.all q = true → (m.takeWhile q = [] → (l ++ m).takeWhile q = l)
  | [], m, _, h => h
  | c :: l, m, hl, h => by
    rw [List.all_cons, Bool.and_eq_true] at hl
    rw [List.cons_append, List.takeWhile_cons_of_pos hl.1, tw_app q l m hl.2 h]
end Go.Proofs.YtnogfhhfklkbiaaDoor.H

namespace Go.Proofs.YtnogfhhfklkbiaaDoor.H
open Go.RowKit Go.Proofs.YtnogfhhfklkbiaaDoorW.PrintWords Go.Proofs.YtnogfhhfklkbiaaDoorW.PrintLast Go.Proofs.YtnogfhhfklkbiaaDoorW.PrintMore
attribute [local go_sem] max2_int min2_int max_two min_two max_three min_three max_four min_four   -- for this text's walks alone
set_option linter.unusedVariables false
set_option linter.unusedSimpArgs false

/-! ### trammellaw2_LexNames: function 12 -/
def trammellaw2_LexNames.l0 : Nat → Int → Int → ByteArray → Int → Option (Bool)
  | 0, _, _, _, _ => none
  | k + 1, x0, x1, x5, x6 => if x6 < (Go.bits .and .i64 x1 31) then (if 0 ≤ (Int.tmod (wrap64 ((wrap64 (Int.tmod (IntKind.u64.wrap (x0)) 6)) + x6)) 6) then (if (Int.tmod (wrap64 ((wrap64 (Int.tmod (IntKind.u64.wrap (x0)) 6)) + x6)) 6) < 6 then ((some (([bt (⟨#[97, 98, 122, 48, 57, 95]⟩ : ByteArray) (Int.tmod (wrap64 ((wrap64 (Int.tmod (IntKind.u64.wrap (x0)) 6)) + x6)) 6)] : List Int) : List Int)).bind fun y607 => (if x5.size + (strOfNums y607).size ≤ 9223372036854775807 then (trammellaw2_LexNames.l0 k x0 x1 (x5 ++ (strOfNums y607)) (wrap64 (x6 + 1))) else (none))) else (none)) else (none)) else (if 1 + x5.size ≤ 9223372036854775807 then ((lex_Tokens.f k ((⟨#[43]⟩ : ByteArray) ++ x5)).bind fun bt610 => (if ((⟨#[43]⟩ : ByteArray) ++ x5).size + 1 ≤ 9223372036854775807 then ((lex_Tokens.f k (((⟨#[43]⟩ : ByteArray) ++ x5) ++ (⟨#[81]⟩ : ByteArray))).bind fun bt615 => (if (x5.size : Int) > 16 then ((trammellaw0_Num.f bt610.2.2).bind fun t620 => (if t620 = 201 then (if bt610.2.1 = 1 then ((trammellaw0_Num.f bt615.2.2).bind fun t621 => (if t621 = 201 then (some (bt615.2.1 == 1)) else (some false))) else (some false)) else (some false))) else ((trammellaw0_Num.f bt610.2.2).bind fun t622 => (if t622 = 0 then ((trammellaw0_SameTokens.f k bt610.1 (([(⟨3, (⟨#[43]⟩ : ByteArray), 0, 0⟩ : S60), (⟨0, x5, 0, 1⟩ : S60)] : List (S60)))).bind fun t626 => (if t626 = true then ((trammellaw0_Num.f bt615.2.2).bind fun t627 => (if t627 = 201 then (some (bt615.2.1 == (wrap64 (1 + (x5.size : Int))))) else (some false))) else (some false))) else (some false))))) else (none))) else (none))
def trammellaw2_LexNames.f (k : Nat) (a0 : Int) (a1 : Int) : Option (Bool) := (trammellaw2_awake.f k).bind fun t606 => (if t606 = true then (trammellaw2_LexNames.l0 k a0 a1 (⟨#[113]⟩ : ByteArray) 0) else (some false))
theorem trammellaw2_LexNames.mono_l : ∀ k, (∀ y0 y1 y2 y3, LeO (trammellaw2_LexNames.l0 k y0 y1 y2 y3) (trammellaw2_LexNames.l0 (k + 1) y0 y1 y2 y3))
  | 0 => fun _ _ _ _ r h => by simp [trammellaw2_LexNames.l0] at h
  | k + 1 => by
    have ih0 := trammellaw2_LexNames.mono_l k
    · intro y0 y1 y2 y3
      unfold trammellaw2_LexNames.l0
      repeat' first
      | (with_reducible exact ih0 _ _ _ _)
      | (with_reducible exact lex_Tokens.mono _ _)
      | (with_reducible exact trammellaw0_SameTokens.mono _ _ _)
      | (with_reducible exact trammellaw2_awake.mono _)
      | (with_reducible exact LeO.refl _)
      | (with_reducible exact LeO.none _)
      | (with_reducible refine LeO.ite ?_ ?_)
      | (with_reducible refine LeO.bind ?_ (fun _ => ?_))
      | exact ih0 _ _ _ _
      | exact lex_Tokens.mono _ _
      | exact trammellaw0_SameTokens.mono _ _ _
      | exact trammellaw2_awake.mono _
      | exact LeO.none _
      | refine LeO.ite ?_ ?_
      | refine LeO.bind ?_ (fun _ => ?_)
theorem trammellaw2_LexNames.mono : ∀ a0 a1 k, LeO (trammellaw2_LexNames.f k a0 a1) (trammellaw2_LexNames.f (k + 1) a0 a1) := by
  intro a0 a1 k
  have ih0 := trammellaw2_LexNames.mono_l k
  unfold trammellaw2_LexNames.f
  repeat' first
      | (with_reducible exact ih0 _ _ _ _)
      | (with_reducible exact lex_Tokens.mono _ _)
      | (with_reducible exact trammellaw0_SameTokens.mono _ _ _)
      | (with_reducible exact trammellaw2_awake.mono _)
      | (with_reducible exact LeO.refl _)
      | (with_reducible exact LeO.none _)
      | (with_reducible refine LeO.ite ?_ ?_)
      | (with_reducible refine LeO.bind ?_ (fun _ => ?_))
      | exact ih0 _ _ _ _
      | exact lex_Tokens.mono _ _
      | exact trammellaw0_SameTokens.mono _ _ _
      | exact trammellaw2_awake.mono _
      | exact LeO.none _
      | refine LeO.ite ?_ ?_
      | refine LeO.bind ?_ (fun _ => ?_)
set_option maxHeartbeats 8000000 in
set_option maxRecDepth 100000 in
theorem trammellaw2_LexNames.callsT (k : Nat) (a0 : Int) (a1 : Int) (r : Bool) (w : World) (htrue : r = true) (h : trammellaw2_LexNames.f k a0 a1 = some r) (hG : Err.ErrTy w) :
    Calls Tryd.prog 12 #[.int .i64 a0, .int .i64 a1] w fun e w' => e = .returned (.bool r) ∧ Below w.heap.size w w' := by
  have HG := Aside0.mk hG
  clear hG
  have HTRUE := Aside0.mk htrue
  clear htrue
  have hu60 := Tryd.underlying60
  have HB := Aside0.mk (Below.refl w.heap.size w)
  have H : ((trammellaw2_awake.f k).bind fun t606 => (if t606 = true then (trammellaw2_LexNames.l0 k a0 a1 (⟨#[113]⟩ : ByteArray) 0) else (some false))) = some r := h
  clear h
  replace H := Option.bind_eq_some_iff.mp H
  obtain ⟨t606, A30, H⟩ := H
  replace H : (if t606 = true then (trammellaw2_LexNames.l0 k a0 a1 (⟨#[113]⟩ : ByteArray) 0) else (some false)) = some r := H
  have A3 := Aside0.mk A30
  clear A30
  by_cases c4 : t606 = true
  · subst c4
    have H1 : (trammellaw2_LexNames.l0 k a0 a1 (⟨#[113]⟩ : ByteArray) 0) = some r := by rw [if_pos rfl] at H; exact H
    clear H
    have H := H1
    clear H1
    have H' := Aside0.mk H
    clear H
    go_enter Tryd.func12, Tryd.ntmps12
    go_wp2_with (first | ((with_reducible refine gate_callee (f := 33) rfl ?_); refine goesL_ (some 13) rfl rfl Tryd.func33 (by kernel_rfl) rfl #[] rfl (by (try simp only [List.map_toArray, List.map_cons, List.map_nil]); first | done | rfl | (simp only [List.length_drop, List.length_take]; rfl)) ?_; (with_reducible refine (trammellaw2_awake.calls k  true _ A3.out (HG.out.below HG.out.lt (by repeat (first | (with_reducible first | exact HB.out | apply below_alloc | apply pw_below_drewN | apply below_drew1) | exact HB.out)))).mono ?_); rintro e w5 ⟨rfl, hb⟩; refine ⟨_, rfl, ?_⟩; have n0_ := Aside0.mk (below_step (by repeat (first | (with_reducible first | exact HB.out | apply below_alloc | apply pw_below_drewN | apply below_drew1) | exact HB.out)) hb); clear HB; have HB := n0_; clear n0_; (try clear hb); (try clear hb2); (try clear hk); (try clear hi)))
    go_loopg [5, 6] k (fun kq v5 v6 w' => ∃ (x5_1 : ByteArray) (x6_1 : Int), v5 = .string x5_1 ∧ v6 = .int .i64 x6_1 ∧ Aside0 (trammellaw2_LexNames.l0 kq a0 a1 x5_1 x6_1 = some r) ∧ Aside0 (kq ≤ k) ∧ Aside0 (Below w.heap.size w w'))
    case atStart => exact ⟨((⟨#[113]⟩ : ByteArray)), (0), (by first | rfl | (simp; done) | (simp [*]; done)), (by first | rfl | (simp; done) | (simp [*]; done)), H', ⟨Nat.le_refl _⟩, ⟨by repeat (first | (with_reducible first | exact HB.out | apply below_alloc | apply pw_below_drewN | apply below_drew1) | exact HB.out)⟩⟩
    case round =>
      clear H'
      try clear c1
      try clear p2
      try clear c3
      try clear c4
      obtain ⟨x5_1, x6_1, rfl, rfl, HA, HK1, HB⟩ := hrel
      cases gk with
      | zero => exact absurd HA.out (by simp [trammellaw2_LexNames.l0])
      | succ k1 =>
        have H := HA.out
        clear HA
        simp only [trammellaw2_LexNames.l0] at H
        by_cases c6 : x6_1 < (Go.bits .and .i64 a1 31)
        · rw [if_pos c6] at H
          have c6b0 : decide (x6_1 < (Go.bits .and .i64 a1 31)) = true := decide_eq_true c6
          clear c6
          obtain ⟨ji7, hji7⟩ : ∃ j_ : Int, (Int.tmod (wrap64 ((wrap64 (Int.tmod (IntKind.u64.wrap (a0)) 6)) + x6_1)) 6) = j_ := ⟨_, rfl⟩
          replace H : (if 0 ≤ (ji7) then (if (ji7) < 6 then ((some (([bt (⟨#[97, 98, 122, 48, 57, 95]⟩ : ByteArray) (ji7)] : List Int) : List Int)).bind fun y607 => (if x5_1.size + (strOfNums y607).size ≤ 9223372036854775807 then (trammellaw2_LexNames.l0 k1 a0 a1 (x5_1 ++ (strOfNums y607)) (wrap64 (x6_1 + 1))) else (none))) else (none)) else (none)) = some r := by first | (rw [hji7] at H; exact H) | (simp only [hji7] at H ⊢; exact H)
          by_cases c8 : 0 ≤ (ji7)
          · rw [if_pos c8] at H
            have c8b0 : decide (0 ≤ (ji7)) = true := decide_eq_true c8
            clear c8
            by_cases c9 : (ji7) < 6
            · rw [if_pos c9] at H
              have c9b0 : decide ((ji7) < 6) = true := decide_eq_true c9
              clear c9
              obtain ⟨y607, hy607⟩ : ∃ y_ : List Int, y_ = (([bt (⟨#[97, 98, 122, 48, 57, 95]⟩ : ByteArray) (ji7)] : List Int)) := ⟨_, rfl⟩
              replace H : (if x5_1.size + (strOfNums y607).size ≤ 9223372036854775807 then (trammellaw2_LexNames.l0 k1 a0 a1 (x5_1 ++ (strOfNums y607)) (wrap64 (x6_1 + 1))) else (none)) = some r := by first | (rw [hy607]; with_reducible exact H) | (have H2_ := (Option.bind_some _ _).symm.trans H; rw [hy607]; with_reducible exact H2_) | (have H2_ := (Option.bind_some _ _).symm.trans H; with_reducible exact H2_) | with_reducible exact H | (rw [hy607]; exact H) | exact H
              have Ny607 := Aside0.mk hy607
              clear hy607
              by_cases c11 : x5_1.size + (strOfNums y607).size ≤ 9223372036854775807
              · rw [if_pos c11] at H
                have c11b0 := eq_true c11
                have c11b1 : decide (x5_1.size + (strOfNums y607).size ≤ 9223372036854775807) = true := decide_eq_true c11
                try have c11b2 : (9223372036854775807 < x5_1.size + (strOfNums y607).size) = False := eq_false (Nat.not_lt.2 c11)
                have H' := Aside0.mk H
                clear H
                have p10 : 0 ≤ ((ji7) : Int) := of_decide_eq_true (by first | (with_reducible assumption) | assumption)
                have q10 : (ji7) < (6 : Int) := of_decide_eq_true (by first | (with_reducible assumption) | assumption)
                have hx10 := bt_at (⟨#[97, 98, 122, 48, 57, 95]⟩ : ByteArray) (ji7)
                replace p10 := eq_true p10
                replace q10 := eq_true q10
                go_wp2_with (first | ((with_reducible refine gate_dst (N := 30) rfl ?_); (try (refine gate_guard (by rfl) ?_; dsimp only)); refine Kd.R_lit (Kd.int .u8) _ 5 ?hg (N := 30) ?hd (xs := ([bt (⟨#[97, 98, 122, 48, 57, 95]⟩ : ByteArray) (ji7)] : List Int)) (inner := [.int .u8 (bt (⟨#[97, 98, 122, 48, 57, 95]⟩ : ByteArray) (ji7))]) (ok := fun _ => True) (okp := fun _ => True) ?hr ?hp (fun _ hk => hk) trivial (Below.refl _ _) (Nat.le_refl _) (by simp) ?_; (case hd => rfl); (case hg => rfl); (case hr => first | (go_simp; done) | (go_simp; rfl)); (case hp => exact (Reps.one (show Kd.M (Kd.int .u8) _ _ _ (bt (⟨#[97, 98, 122, 48, 57, 95]⟩ : ByteArray) (ji7)) [.int .u8 (bt (⟨#[97, 98, 122, 48, 57, 95]⟩ : ByteArray) (ji7))] from rfl) (Reps.none _ _))); intro v608 w12 ho13 hb hg_ hnew_; clear hg_ hnew_; (first | rw [← Ny607.out] at ho13 | (simp only [Int.reduceToNat] at ho13; rw [← Ny607.out] at ho13)); have n0_ := Aside0.mk (Kd.R_lower ho13 (below_size (by repeat (first | (with_reducible first | exact HB.out | apply below_alloc | apply pw_below_drewN | apply below_drew1) | exact HB.out)))); have n1_ := Aside0.mk (below_step (by repeat (first | (with_reducible first | exact HB.out | apply below_alloc | apply pw_below_drewN | apply below_drew1) | exact HB.out)) hb); clear HB; have HO609 := n0_; have HB := n1_; clear n0_ n1_; clear hb ho13; have hcv14 := own_string (P := Tryd.prog) Tryd.underlying65 Tryd.underlying5 Tryd.underlying9 (Kd.own_of_R HO609.out)))
                go_roundg k1
                case measure => have := HK1.out; omega
                case rel => exact ⟨(x5_1 ++ (strOfNums y607)), (wrap64 (x6_1 + 1)), (by first | rfl | (simp; done) | (simp [*]; done)), (by first | rfl | (simp; done) | (simp [*]; done)), H', ⟨by have := HK1.out; omega⟩, ⟨by repeat (first | (with_reducible first | exact HB.out | apply below_alloc | apply pw_below_drewN | apply below_drew1) | exact HB.out)⟩⟩
              · rw [if_neg c11] at H
                exact absurd H (by simp)
            · rw [if_neg c9] at H
              exact absurd H (by simp)
          · rw [if_neg c8] at H
            exact absurd H (by simp)
        · rw [if_neg c6] at H
          have c6b0 : decide (x6_1 < (Go.bits .and .i64 a1 31)) = false := decide_eq_false c6
          clear c6
          by_cases c15 : 1 + x5_1.size ≤ 9223372036854775807
          · rw [if_pos c15] at H
            have c15b0 := eq_true c15
            have c15b1 : decide (1 + x5_1.size ≤ 9223372036854775807) = true := decide_eq_true c15
            try have c15b2 : (9223372036854775807 < 1 + x5_1.size) = False := eq_false (Nat.not_lt.2 c15)
            replace H := Option.bind_eq_some_iff.mp H
            obtain ⟨⟨t610, t611, t612⟩, A160, H⟩ := H
            replace H : (if ((⟨#[43]⟩ : ByteArray) ++ x5_1).size + 1 ≤ 9223372036854775807 then ((lex_Tokens.f k1 (((⟨#[43]⟩ : ByteArray) ++ x5_1) ++ (⟨#[81]⟩ : ByteArray))).bind fun bt615 => (if (x5_1.size : Int) > 16 then ((trammellaw0_Num.f t612).bind fun t620 => (if t620 = 201 then (if t611 = 1 then ((trammellaw0_Num.f bt615.2.2).bind fun t621 => (if t621 = 201 then (some (bt615.2.1 == 1)) else (some false))) else (some false)) else (some false))) else ((trammellaw0_Num.f t612).bind fun t622 => (if t622 = 0 then ((trammellaw0_SameTokens.f k1 t610 (([(⟨3, (⟨#[43]⟩ : ByteArray), 0, 0⟩ : S60), (⟨0, x5_1, 0, 1⟩ : S60)] : List (S60)))).bind fun t626 => (if t626 = true then ((trammellaw0_Num.f bt615.2.2).bind fun t627 => (if t627 = 201 then (some (bt615.2.1 == (wrap64 (1 + (x5_1.size : Int))))) else (some false))) else (some false))) else (some false))))) else (none)) = some r := H
            have A16 := Aside0.mk A160
            clear A160
            by_cases c17 : ((⟨#[43]⟩ : ByteArray) ++ x5_1).size + 1 ≤ 9223372036854775807
            · rw [if_pos c17] at H
              have c17b0 := eq_true c17
              have c17b3 : (9223372036854775807 < 1 + x5_1.size + 1) = False := eq_false (Nat.not_lt.2 (by have h_ := c17; repeat rw [ByteArray.size_append] at h_; exact h_))
              have c17b1 : decide (((⟨#[43]⟩ : ByteArray) ++ x5_1).size + 1 ≤ 9223372036854775807) = true := decide_eq_true c17
              try have c17b2 : (9223372036854775807 < ((⟨#[43]⟩ : ByteArray) ++ x5_1).size + 1) = False := eq_false (Nat.not_lt.2 c17)
              replace H := Option.bind_eq_some_iff.mp H
              obtain ⟨⟨t615, t616, t617⟩, A180, H⟩ := H
              replace H : (if (x5_1.size : Int) > 16 then ((trammellaw0_Num.f t612).bind fun t620 => (if t620 = 201 then (if t611 = 1 then ((trammellaw0_Num.f t617).bind fun t621 => (if t621 = 201 then (some (t616 == 1)) else (some false))) else (some false)) else (some false))) else ((trammellaw0_Num.f t612).bind fun t622 => (if t622 = 0 then ((trammellaw0_SameTokens.f k1 t610 (([(⟨3, (⟨#[43]⟩ : ByteArray), 0, 0⟩ : S60), (⟨0, x5_1, 0, 1⟩ : S60)] : List (S60)))).bind fun t626 => (if t626 = true then ((trammellaw0_Num.f t617).bind fun t627 => (if t627 = 201 then (some (t616 == (wrap64 (1 + (x5_1.size : Int))))) else (some false))) else (some false))) else (some false)))) = some r := H
              have A18 := Aside0.mk A180
              clear A180
              by_cases c19 : (x5_1.size : Int) > 16
              · rw [if_pos c19] at H
                have c19b0 : decide (16 < (x5_1.size : Int)) = true := decide_eq_true c19
                have c19b1 : decide (16 < x5_1.size) = true := decide_eq_true (by omega)
                clear c19
                replace H := Option.bind_eq_some_iff.mp H
                obtain ⟨t620, A200, H⟩ := H
                replace H : (if t620 = 201 then (if t611 = 1 then ((trammellaw0_Num.f t617).bind fun t621 => (if t621 = 201 then (some (t616 == 1)) else (some false))) else (some false)) else (some false)) = some r := H
                have A20 := Aside0.mk A200
                clear A200
                by_cases c21 : t620 = 201
                · rw [if_pos c21] at H
                  have c21b0 : (t620 == 201) = true := beq_iff_eq.mpr c21
                  have c21b1 : (t620 != 201) = false := bne_eq_false_iff_eq.mpr c21
                  clear c21
                  by_cases c22 : t611 = 1
                  · rw [if_pos c22] at H
                    have c22b0 : (t611 == 1) = true := beq_iff_eq.mpr c22
                    have c22b1 : (t611 != 1) = false := bne_eq_false_iff_eq.mpr c22
                    clear c22
                    replace H := Option.bind_eq_some_iff.mp H
                    obtain ⟨t621, A230, H⟩ := H
                    replace H : (if t621 = 201 then (some (t616 == 1)) else (some false)) = some r := H
                    have A23 := Aside0.mk A230
                    clear A230
                    by_cases c24 : t621 = 201
                    · rw [if_pos c24] at H
                      have c24b0 : (t621 == 201) = true := beq_iff_eq.mpr c24
                      have c24b1 : (t621 != 201) = false := bne_eq_false_iff_eq.mpr c24
                      clear c24
                      obtain rfl := Option.some.inj H
                      go_wp2_with (first | ((with_reducible refine gate_callee (f := 27) rfl ?_); refine goesL_ (some 36) rfl rfl Tryd.func27 (by kernel_rfl) rfl #[.string ((⟨#[43]⟩ : ByteArray) ++ x5_1)] rfl (by (try simp only [List.map_toArray, List.map_cons, List.map_nil]); first | done | rfl | (simp only [List.length_drop, List.length_take]; rfl)) ?_; (with_reducible refine (lex_Tokens.calls k1 ((⟨#[43]⟩ : ByteArray) ++ x5_1) t610 t611 t612 _ A16.out (HG.out.below HG.out.lt (by repeat (first | (with_reducible first | exact HB.out | apply below_alloc | apply pw_below_drewN | apply below_drew1) | exact HB.out)))).mono ?_); rintro e w25 ⟨v613, rfl, ho0, hb⟩; refine ⟨_, rfl, ?_⟩; have n0_ := Aside0.mk (Kd.R_lower ho0 (below_size (by repeat (first | (with_reducible first | exact HB.out | apply below_alloc | apply pw_below_drewN | apply below_drew1) | exact HB.out)))); have n1_ := Aside0.mk (below_step (by repeat (first | (with_reducible first | exact HB.out | apply below_alloc | apply pw_below_drewN | apply below_drew1) | exact HB.out)) hb); clear HB; have HO614 := n0_; have HB := n1_; clear n0_ n1_; (try clear hb); (try clear hb2); (try clear hk); (try clear hi); (try clear ho0)) | ((with_reducible refine gate_callee (f := 27) rfl ?_); refine goesL_ (some 44) rfl rfl Tryd.func27 (by kernel_rfl) rfl #[.string (((⟨#[43]⟩ : ByteArray) ++ x5_1) ++ (⟨#[81]⟩ : ByteArray))] rfl (by (try simp only [List.map_toArray, List.map_cons, List.map_nil]); first | done | rfl | (simp only [List.length_drop, List.length_take]; rfl)) ?_; (with_reducible refine (lex_Tokens.calls k1 (((⟨#[43]⟩ : ByteArray) ++ x5_1) ++ (⟨#[81]⟩ : ByteArray)) t615 t616 t617 _ A18.out (HG.out.below HG.out.lt (by repeat (first | (with_reducible first | exact HB.out | apply below_alloc | apply pw_below_drewN | apply below_drew1) | exact HB.out)))).mono ?_); rintro e w26 ⟨v618, rfl, ho0, hb⟩; refine ⟨_, rfl, ?_⟩; have n0_ := Aside0.mk (Kd.R_elder' (by (with_reducible repeat (first | apply Kd.R_alloc | apply Kd.R_drewN | apply Kd.R_drew)); exact HO614.out) (Kd.R_base ho0) hb); have n1_ := Aside0.mk (Kd.R_lower (Kd.R_new' ho0 (Kd.R_lt (by (with_reducible repeat (first | apply Kd.R_alloc | apply Kd.R_drewN | apply Kd.R_drew)); exact HO614.out))) (below_size (by repeat (first | (with_reducible first | exact HB.out | apply below_alloc | apply pw_below_drewN | apply below_drew1) | exact HB.out)))); have n2_ := Aside0.mk (below_step (by repeat (first | (with_reducible first | exact HB.out | apply below_alloc | apply pw_below_drewN | apply below_drew1) | exact HB.out)) hb); clear HO614; clear HB; have HO614 := n0_; have HO619 := n1_; have HB := n2_; clear n0_ n1_ n2_; (try clear hb); (try clear hb2); (try clear hk); (try clear hi); (try clear ho0)) | ((with_reducible refine gate_callee (f := 18) rfl ?_); refine goesL_ (some 52) rfl rfl Tryd.func18 (by kernel_rfl) rfl #[.int .i64 t612] rfl (by (try simp only [List.map_toArray, List.map_cons, List.map_nil]); first | done | rfl | (simp only [List.length_drop, List.length_take]; rfl)) ?_; (with_reducible refine (trammellaw0_Num.calls t612 t620 _ A20.out).mono ?_); rintro e w' ⟨rfl, ⟨nd, rfl⟩⟩; refine ⟨_, rfl, ?_⟩) | (go_at_call 18; (with_reducible refine (trammellaw0_Num.calls t617 t621 _ A23.out).mono ?_); rintro e w' ⟨rfl, ⟨nd, rfl⟩⟩))
                      go_ret
                      exact ⟨by first | rfl | (rw [show wrap64 (1 + (x5_1.size : Int)) = 1 + (x5_1.size : Int) from by unfold wrap64; omega]; rfl) | (simp [errW_none, errW_some] <;> rfl) | (simp [*, errW_none, errW_some] <;> rfl), by repeat (first | (with_reducible first | exact HB.out | apply below_alloc | apply pw_below_drewN | apply below_drew1) | exact HB.out)⟩
                    · rw [if_neg c24] at H
                      have c24b0 : (t621 == 201) = false := beq_eq_false_iff_ne.mpr c24
                      have c24b1 : (t621 != 201) = true := bne_iff_ne.mpr c24
                      exact absurd ((Option.some.inj H).trans HTRUE.out) (by decide)
                  · rw [if_neg c22] at H
                    have c22b0 : (t611 == 1) = false := beq_eq_false_iff_ne.mpr c22
                    have c22b1 : (t611 != 1) = true := bne_iff_ne.mpr c22
                    exact absurd ((Option.some.inj H).trans HTRUE.out) (by decide)
                · rw [if_neg c21] at H
                  have c21b0 : (t620 == 201) = false := beq_eq_false_iff_ne.mpr c21
                  have c21b1 : (t620 != 201) = true := bne_iff_ne.mpr c21
                  exact absurd ((Option.some.inj H).trans HTRUE.out) (by decide)
              · rw [if_neg c19] at H
                have c19b0 : decide (16 < (x5_1.size : Int)) = false := decide_eq_false c19
                have c19b1 : decide (16 < x5_1.size) = false := decide_eq_false (by omega)
                clear c19
                replace H := Option.bind_eq_some_iff.mp H
                obtain ⟨t622, A270, H⟩ := H
                replace H : (if t622 = 0 then ((trammellaw0_SameTokens.f k1 t610 (([(⟨3, (⟨#[43]⟩ : ByteArray), 0, 0⟩ : S60), (⟨0, x5_1, 0, 1⟩ : S60)] : List (S60)))).bind fun t626 => (if t626 = true then ((trammellaw0_Num.f t617).bind fun t627 => (if t627 = 201 then (some (t616 == (wrap64 (1 + (x5_1.size : Int))))) else (some false))) else (some false))) else (some false)) = some r := H
                have A27 := Aside0.mk A270
                clear A270
                by_cases c28 : t622 = 0
                · rw [if_pos c28] at H
                  have c28b0 : (t622 == 0) = true := beq_iff_eq.mpr c28
                  have c28b1 : (t622 != 0) = false := bne_eq_false_iff_eq.mpr c28
                  clear c28
                  obtain ⟨y623, hy623⟩ : ∃ y_ : List (S60), y_ = (([(⟨3, (⟨#[43]⟩ : ByteArray), 0, 0⟩ : S60), (⟨0, x5_1, 0, 1⟩ : S60)] : List (S60))) := ⟨_, rfl⟩
                  replace H : ((trammellaw0_SameTokens.f k1 t610 y623).bind fun t626 => (if t626 = true then ((trammellaw0_Num.f t617).bind fun t627 => (if t627 = 201 then (some (t616 == (wrap64 (1 + (x5_1.size : Int))))) else (some false))) else (some false))) = some r := by first | (rw [hy623]; with_reducible exact H) | (have H2_ := (Option.bind_some _ _).symm.trans H; rw [hy623]; with_reducible exact H2_) | (have H2_ := (Option.bind_some _ _).symm.trans H; with_reducible exact H2_) | with_reducible exact H | (rw [hy623]; exact H) | exact H
                  have Ny623 := Aside0.mk hy623
                  clear hy623
                  replace H := Option.bind_eq_some_iff.mp H
                  obtain ⟨t626, A290, H⟩ := H
                  replace H : (if t626 = true then ((trammellaw0_Num.f t617).bind fun t627 => (if t627 = 201 then (some (t616 == (wrap64 (1 + (x5_1.size : Int))))) else (some false))) else (some false)) = some r := H
                  have A29 := Aside0.mk A290
                  clear A290
                  by_cases c30 : t626 = true
                  · subst c30
                    have H1 : ((trammellaw0_Num.f t617).bind fun t627 => (if t627 = 201 then (some (t616 == (wrap64 (1 + (x5_1.size : Int))))) else (some false))) = some r := by rw [if_pos rfl] at H; exact H
                    clear H
                    have H := H1
                    clear H1
                    replace H := Option.bind_eq_some_iff.mp H
                    obtain ⟨t627, A310, H⟩ := H
                    replace H : (if t627 = 201 then (some (t616 == (wrap64 (1 + (x5_1.size : Int))))) else (some false)) = some r := H
                    have A31 := Aside0.mk A310
                    clear A310
                    by_cases c32 : t627 = 201
                    · rw [if_pos c32] at H
                      have c32b0 : (t627 == 201) = true := beq_iff_eq.mpr c32
                      have c32b1 : (t627 != 201) = false := bne_eq_false_iff_eq.mpr c32
                      clear c32
                      obtain rfl := Option.some.inj H
                      go_wp2_with (first | ((with_reducible refine gate_callee (f := 27) rfl ?_); refine goesL_ (some 36) rfl rfl Tryd.func27 (by kernel_rfl) rfl #[.string ((⟨#[43]⟩ : ByteArray) ++ x5_1)] rfl (by (try simp only [List.map_toArray, List.map_cons, List.map_nil]); first | done | rfl | (simp only [List.length_drop, List.length_take]; rfl)) ?_; (with_reducible refine (lex_Tokens.calls k1 ((⟨#[43]⟩ : ByteArray) ++ x5_1) t610 t611 t612 _ A16.out (HG.out.below HG.out.lt (by repeat (first | (with_reducible first | exact HB.out | apply below_alloc | apply pw_below_drewN | apply below_drew1) | exact HB.out)))).mono ?_); rintro e w33 ⟨v613, rfl, ho0, hb⟩; refine ⟨_, rfl, ?_⟩; have n0_ := Aside0.mk (Kd.R_lower ho0 (below_size (by repeat (first | (with_reducible first | exact HB.out | apply below_alloc | apply pw_below_drewN | apply below_drew1) | exact HB.out)))); have n1_ := Aside0.mk (below_step (by repeat (first | (with_reducible first | exact HB.out | apply below_alloc | apply pw_below_drewN | apply below_drew1) | exact HB.out)) hb); clear HB; have HO614 := n0_; have HB := n1_; clear n0_ n1_; (try clear hb); (try clear hb2); (try clear hk); (try clear hi); (try clear ho0)) | ((with_reducible refine gate_callee (f := 27) rfl ?_); refine goesL_ (some 44) rfl rfl Tryd.func27 (by kernel_rfl) rfl #[.string (((⟨#[43]⟩ : ByteArray) ++ x5_1) ++ (⟨#[81]⟩ : ByteArray))] rfl (by (try simp only [List.map_toArray, List.map_cons, List.map_nil]); first | done | rfl | (simp only [List.length_drop, List.length_take]; rfl)) ?_; (with_reducible refine (lex_Tokens.calls k1 (((⟨#[43]⟩ : ByteArray) ++ x5_1) ++ (⟨#[81]⟩ : ByteArray)) t615 t616 t617 _ A18.out (HG.out.below HG.out.lt (by repeat (first | (with_reducible first | exact HB.out | apply below_alloc | apply pw_below_drewN | apply below_drew1) | exact HB.out)))).mono ?_); rintro e w34 ⟨v618, rfl, ho0, hb⟩; refine ⟨_, rfl, ?_⟩; have n0_ := Aside0.mk (Kd.R_elder' (by (with_reducible repeat (first | apply Kd.R_alloc | apply Kd.R_drewN | apply Kd.R_drew)); exact HO614.out) (Kd.R_base ho0) hb); have n1_ := Aside0.mk (Kd.R_lower (Kd.R_new' ho0 (Kd.R_lt (by (with_reducible repeat (first | apply Kd.R_alloc | apply Kd.R_drewN | apply Kd.R_drew)); exact HO614.out))) (below_size (by repeat (first | (with_reducible first | exact HB.out | apply below_alloc | apply pw_below_drewN | apply below_drew1) | exact HB.out)))); have n2_ := Aside0.mk (below_step (by repeat (first | (with_reducible first | exact HB.out | apply below_alloc | apply pw_below_drewN | apply below_drew1) | exact HB.out)) hb); clear HO614; clear HB; have HO614 := n0_; have HO619 := n1_; have HB := n2_; clear n0_ n1_ n2_; (try clear hb); (try clear hb2); (try clear hk); (try clear hi); (try clear ho0)) | ((with_reducible refine gate_callee (f := 18) rfl ?_); refine goesL_ (some 68) rfl rfl Tryd.func18 (by kernel_rfl) rfl #[.int .i64 t612] rfl (by (try simp only [List.map_toArray, List.map_cons, List.map_nil]); first | done | rfl | (simp only [List.length_drop, List.length_take]; rfl)) ?_; (with_reducible refine (trammellaw0_Num.calls t612 t622 _ A27.out).mono ?_); rintro e w' ⟨rfl, ⟨nd, rfl⟩⟩; refine ⟨_, rfl, ?_⟩) | ((with_reducible refine gate_dst (N := 75) rfl ?_); (try (refine gate_guard (by rfl) ?_; dsimp only)); refine Kd.R_lit k60 _ 60 ?hg (N := 75) ?hd (xs := ([(⟨3, (⟨#[43]⟩ : ByteArray), 0, 0⟩ : S60), (⟨0, x5_1, 0, 1⟩ : S60)] : List (S60))) (inner := [.int .i64 3, .string (⟨#[43]⟩ : ByteArray), .int .i64 0, .int .i64 0, .int .i64 0, .string x5_1, .int .i64 0, .int .i64 1]) (ok := fun _ => True) (okp := fun _ => True) ?hr ?hp (fun _ hk => hk) trivial (Below.refl _ _) (Nat.le_refl _) (by simp) ?_; (case hd => rfl); (case hg => rfl); (case hr => first | (go_simp; done) | (go_simp; rfl)); (case hp => exact (Reps.c4 (show Kd.M k60 _ _ _ (⟨3, (⟨#[43]⟩ : ByteArray), 0, 0⟩ : S60) [.int .i64 3, .string (⟨#[43]⟩ : ByteArray), .int .i64 0, .int .i64 0] from (k60_mkM _ _ _ (⟨3, (⟨#[43]⟩ : ByteArray), 0, 0⟩ : S60) )) (Reps.c4 (show Kd.M k60 _ _ _ (⟨0, x5_1, 0, 1⟩ : S60) [.int .i64 0, .string x5_1, .int .i64 0, .int .i64 1] from (k60_mkM _ _ _ (⟨0, x5_1, 0, 1⟩ : S60) )) (Reps.none _ _)))); intro v624 w35 ho36 hb hg_ hnew_; clear hg_ hnew_; (first | rw [← Ny623.out] at ho36 | (simp only [Int.reduceToNat] at ho36; rw [← Ny623.out] at ho36)); have n0_ := Aside0.mk (Kd.R_elder' (by (with_reducible repeat (first | apply Kd.R_alloc | apply Kd.R_drewN | apply Kd.R_drew)); exact HO614.out) (Kd.R_base ho36) hb); have n1_ := Aside0.mk (Kd.R_elder' (by (with_reducible repeat (first | apply Kd.R_alloc | apply Kd.R_drewN | apply Kd.R_drew)); exact HO619.out) (Kd.R_base ho36) hb); have n2_ := Aside0.mk (Kd.R_lower (Kd.R_new' (Kd.R_new' ho36 (Kd.R_lt (by (with_reducible repeat (first | apply Kd.R_alloc | apply Kd.R_drewN | apply Kd.R_drew)); exact HO614.out))) (Kd.R_lt (by (with_reducible repeat (first | apply Kd.R_alloc | apply Kd.R_drewN | apply Kd.R_drew)); exact HO619.out))) (below_size (by repeat (first | (with_reducible first | exact HB.out | apply below_alloc | apply pw_below_drewN | apply below_drew1) | exact HB.out)))); have n3_ := Aside0.mk (below_step (by repeat (first | (with_reducible first | exact HB.out | apply below_alloc | apply pw_below_drewN | apply below_drew1) | exact HB.out)) hb); clear HO614; clear HO619; clear HB; have HO614 := n0_; have HO619 := n1_; have HO625 := n2_; have HB := n3_; clear n0_ n1_ n2_ n3_; clear hb ho36; obtain ⟨Ao37, co37, eo37⟩ := Kd.R_slice HO614.out; subst eo37; obtain ⟨Ao38, co38, eo38⟩ := Kd.R_slice HO625.out; subst eo38) | (go_at_call 29; (with_reducible refine (trammellaw0_SameTokens.calls k1 _ _ t610 _ _ y623 true _ ?side1 ?side2 ?side3 ?side4 A29.out).mono ?_); (case side1 => repeat (first | exact (Kd.R_reads' HO614.out).2.2 | (with_reducible refine Kd.C_alloc ?_ _) | (with_reducible refine Kd.C_drewN ?_ _) | (with_reducible refine Kd.C_drew ?_))); (case side2 => exact (Kd.R_reads' HO614.out).2.1); (case side3 => repeat (first | exact (Kd.R_reads' HO625.out).2.2 | (with_reducible refine Kd.C_alloc ?_ _) | (with_reducible refine Kd.C_drewN ?_ _) | (with_reducible refine Kd.C_drew ?_))); (case side4 => exact (Kd.R_reads' HO625.out).2.1); rintro e w' ⟨rfl, ⟨nd, rfl⟩⟩) | (go_at_call 18; (with_reducible refine (trammellaw0_Num.calls t617 t627 _ A31.out).mono ?_); rintro e w' ⟨rfl, ⟨nd, rfl⟩⟩))
                      go_ret
                      exact ⟨by first | rfl | (rw [show wrap64 (1 + (x5_1.size : Int)) = 1 + (x5_1.size : Int) from by unfold wrap64; omega]; rfl) | (simp [errW_none, errW_some] <;> rfl) | (simp [*, errW_none, errW_some] <;> rfl), by repeat (first | (with_reducible first | exact HB.out | apply below_alloc | apply pw_below_drewN | apply below_drew1) | exact HB.out)⟩
                    · rw [if_neg c32] at H
                      have c32b0 : (t627 == 201) = false := beq_eq_false_iff_ne.mpr c32
                      have c32b1 : (t627 != 201) = true := bne_iff_ne.mpr c32
                      exact absurd ((Option.some.inj H).trans HTRUE.out) (by decide)
                  · replace c30 := Bool.eq_false_iff.mpr c30
                    subst c30
                    have H1 : (some false) = some r := by rw [if_neg (show ¬ (false = true) by decide)] at H; exact H
                    clear H
                    have H := H1
                    clear H1
                    exact absurd ((Option.some.inj H).trans HTRUE.out) (by decide)
                · rw [if_neg c28] at H
                  have c28b0 : (t622 == 0) = false := beq_eq_false_iff_ne.mpr c28
                  have c28b1 : (t622 != 0) = true := bne_iff_ne.mpr c28
                  exact absurd ((Option.some.inj H).trans HTRUE.out) (by decide)
            · rw [if_neg c17] at H
              exact absurd H (by simp)
          · rw [if_neg c15] at H
            exact absurd H (by simp)
  · replace c4 := Bool.eq_false_iff.mpr c4
    subst c4
    have H1 : (some false) = some r := by rw [if_neg (show ¬ (false = true) by decide)] at H; exact H
    clear H
    have H := H1
    clear H1
    exact absurd ((Option.some.inj H).trans HTRUE.out) (by decide)

end Go.Proofs.YtnogfhhfklkbiaaDoor.H

set_option linter.unusedVariables false
set_option linter.unusedSimpArgs false
set_option maxHeartbeats 1000000
namespace Go.Proofs.YtnogfhhfklkbiaaDoor.H
open Go.RowKit Go.Proofs.YtnogfhhfklkbiaaDoorW.PrintWords Go.Proofs.YtnogfhhfklkbiaaDoorW.PrintLast Go.Proofs.YtnogfhhfklkbiaaDoorW.PrintMore
open Go.Proofs.YtnogfhhfklkbiaaDoor.Src

theorem kw_q (r : List UInt8) : kw (113 :: r) = false := by
  rw [Bool.eq_false_iff]
  intro hk
  have hm : (113 :: r) ∈ kwL := List.contains_iff_mem.1 (show kwL.contains (113 :: r) = true from hk)
  have h : (kwL.all fun l => l.head? != some 113) = true := by decide +kernel
  have := List.all_eq_true.1 h _ hm
  simp at this
theorem tok_q (r m : List UInt8) (hr : r.all isMore = true) (hm : m.takeWhile isMore = []) : tokL (113 :: r ++ m) = if r.length < 16 then (0, ba (113 :: r), 0, 0, ((113 :: r).length : Int), none) else noTok 201 := by
  have hw : (113 :: r).all isMore = true := by rw [List.all_cons, hr]; rfl
  unfold tokL
  rw [tw_app isMore (113 :: r) m hw hm, wordL_cons, if_neg (by decide), if_neg (by decide), if_neg (by rw [kw_q]; decide)]
  have hn : nm (113 :: r) = decide (r.length < 16) := by simp [nm, hr, kw_q]; exact fun _ => rfl
  rw [hn]
  by_cases h : r.length < 16
  · rw [if_pos (decide_eq_true h), if_pos h]
  · rw [if_neg (by rw [decide_eq_false h]; decide), if_neg h]
theorem lexA_plus (r m : List UInt8) (hr : r.all isMore = true) (hm : m.takeWhile isMore = []) :
    lexA 0 (43 :: (113 :: r ++ m)) = consT 0 (3, (⟨#[43]⟩ : ByteArray), 0, 0, 1, none) (if r.length < 16 then consT 1 (0, ba (113 :: r), 0, 0, ((113 :: r).length : Int), none) (lexA (1 + (113 :: r).length) m) else ([], some (1, 201))) := by
  have h43 : tokL (43 :: (113 :: r ++ m)) = (3, (⟨#[43]⟩ : ByteArray), 0, 0, 1, none) := by
    unfold tokL
    rw [List.takeWhile_cons_of_neg (by decide)]
    show sgnL (43 :: (113 :: r ++ m)) = _
    unfold sgnL
    have ht : twoS (43 :: (113 :: r ++ m)) = false := by
      unfold twoS
      simp
    rw [ht]
    rfl
  rw [lexA_tok 0 43 _ rfl (by decide), h43]
  congr 1
  show lexA 1 (113 :: r ++ m) = _
  rw [List.cons_append, lexA_tok 1 113 _ rfl (by decide), ← List.cons_append, tok_q r m hr hm]
  by_cases h : r.length < 16
  · rw [if_pos h, if_pos h]
    congr 1
    show lexA (1 + ((113 :: r).length : Int).toNat) ((113 :: r ++ m).drop ((113 :: r).length : Int).toNat) = _
    rw [Int.toNat_natCast, List.drop_left]
  · rw [if_neg h, if_neg h]
    rfl
theorem names_end (x5 : ByteArray) (r : List UInt8) (h5 : x5 = ba (113 :: r)) (hr : r.all isMore = true) (hl : r.length ≤ 40) :
    (if 1 + x5.size ≤ 9223372036854775807 then ((lex_Tokens.f 1000 ((⟨#[43]⟩ : ByteArray) ++ x5)).bind fun bt610 => (if ((⟨#[43]⟩ : ByteArray) ++ x5).size + 1 ≤ 9223372036854775807 then ((lex_Tokens.f 1000 (((⟨#[43]⟩ : ByteArray) ++ x5) ++ (⟨#[81]⟩ : ByteArray))).bind fun bt615 => (if (x5.size : Int) > 16 then ((trammellaw0_Num.f bt610.2.2).bind fun t620 => (if t620 = 201 then (if bt610.2.1 = 1 then ((trammellaw0_Num.f bt615.2.2).bind fun t621 => (if t621 = 201 then (some (bt615.2.1 == 1)) else (some false))) else (some false)) else (some false))) else ((trammellaw0_Num.f bt610.2.2).bind fun t622 => (if t622 = 0 then ((trammellaw0_SameTokens.f 1000 bt610.1 (([(⟨3, (⟨#[43]⟩ : ByteArray), 0, 0⟩ : S60), (⟨0, x5, 0, 1⟩ : S60)] : List (S60)))).bind fun t626 => (if t626 = true then ((trammellaw0_Num.f bt615.2.2).bind fun t627 => (if t627 = 201 then (some (bt615.2.1 == (wrap64 (1 + (x5.size : Int))))) else (some false))) else (some false))) else (some false))))) else (none))) else (none)) = some true := by
  subst h5
  have z : (ba (113 :: r)).size = r.length + 1 := ba_size _
  have e43 : (⟨#[43]⟩ : ByteArray) ++ ba (113 :: r) = ba (43 :: (113 :: r)) := ba_app [43] _
  have e81 : ba (43 :: (113 :: r)) ++ (⟨#[81]⟩ : ByteArray) = ba (43 :: (113 :: r ++ [81])) := ba_app _ [81]
  have z43 : (ba (43 :: (113 :: r))).size = r.length + 2 := ba_size _
  have z81 : (ba (43 :: (113 :: r ++ [81]))).size = r.length + 3 := by rw [ba_size]; simp
  have asc : r.all (fun c => decide (c.toNat < 128)) = true := by
    rw [List.all_eq_true] at hr ⊢
    exact fun c hc => decide_eq_true (more_ascii c (hr c hc))
  have L1 := lexA_plus r [] hr rfl
  have L2 := lexA_plus r [81] hr rfl
  rw [List.append_nil] at L1
  have q81 : lexA (1 + (113 :: r).length) [81] = ([], some (((1 + (113 :: r).length : Nat) : Int), 201)) := by
    rw [lexA_tok _ 81 [] rfl (by decide)]
    rfl
  rw [q81] at L2
  rw [lexA_nil] at L1
  rw [if_pos (by omega), e43, tokS_is _ (by omega) 1000 (by omega), tokS_ascii _ (by simp; omega) (by rw [List.all_cons, List.all_cons, asc]; rfl), L1, Option.bind_some]
  rw [if_pos (by omega), e81, tokS_is _ (by omega) 1000 (by omega), tokS_ascii _ (by simp; omega) (by rw [List.all_cons, List.cons_append, List.all_cons, List.all_append, asc]; rfl), L2, Option.bind_some]
  by_cases h : r.length < 16
  · rw [if_pos h, if_pos h, if_neg (by omega)]
    have w : wrap64 (1 + ((ba (113 :: r)).size : Int)) = 1 + ((ba (113 :: r)).size : Int) := by unfold wrap64; omega
    rw [w, z]
    simp only [consT, told2, trammellaw0_Num.f, Option.bind_some, if_true]
    rw [sameT_is _ _ 1000 (by simp) (by simp), (eqToks_iff _ _).2 (by rfl), Option.bind_some, if_pos rfl]
    simp only [Option.some.injEq, beq_iff_eq, List.length_cons]
    omega
  · rw [if_neg h, if_neg h, if_pos (by omega)]
    simp only [consT, told2, trammellaw0_Num.f, Option.bind_some, if_true]
    rfl
theorem abz_more : ∀ m : Fin 6, isMore (UInt8.ofNat (bt (⟨#[97, 98, 122, 48, 57, 95]⟩ : ByteArray) (m.val : Int)).toNat) = true := by decide +kernel
theorem names_loop (x0 x1 : Int) (e : Nat) (he : Go.bits .and .i64 x1 31 = (e : Int)) (he31 : e < 32) (q : Nat) (hq : wrap64 (Int.tmod (IntKind.u64.wrap x0) 6) = (q : Int)) (hq6 : q < 6) : ∀ (d i : Nat) (x5 : ByteArray) (r : List UInt8), e - i = d → i ≤ e → x5 = ba (113 :: r) → r.all isMore = true → r.length = i →
    trammellaw2_LexNames.l0 (1001 + d) x0 x1 x5 (i : Int) = some true := by
  intro d
  induction d with
  | zero =>
    intro i x5 r hd hi h5 hr hl
    rw [Nat.add_zero, show (1001 : Nat) = 1000 + 1 from rfl, trammellaw2_LexNames.l0, he, if_neg (by omega)]
    exact names_end x5 r h5 hr (by omega)
  | succ d ih =>
    intro i x5 r hd hi h5 hr hl
    rw [show 1001 + (d + 1) = (1001 + d) + 1 by omega, trammellaw2_LexNames.l0]
    have hm : Int.tmod (wrap64 ((q : Int) + (i : Int))) 6 = (((q + i) % 6 : Nat) : Int) := by
      have : wrap64 ((q : Int) + (i : Int)) = ((q + i : Nat) : Int) := by unfold wrap64; omega
      rw [this, Int.tmod_eq_emod_of_nonneg (by omega)]
      omega
    rw [he, hq, hm, if_pos (by omega), if_pos (by omega), if_pos (by omega), Option.bind_some]
    have hb := abz_more ⟨(q + i) % 6, Nat.mod_lt _ (by decide)⟩
    simp only at hb
    have e1 : x5 ++ strOfNums [bt (⟨#[97, 98, 122, 48, 57, 95]⟩ : ByteArray) (((q + i) % 6 : Nat) : Int)] = ba (113 :: (r ++ [UInt8.ofNat (bt (⟨#[97, 98, 122, 48, 57, 95]⟩ : ByteArray) (((q + i) % 6 : Nat) : Int)).toNat])) := by
      rw [h5]
      exact ba_app (113 :: r) [_]
    have z1 : (strOfNums [bt (⟨#[97, 98, 122, 48, 57, 95]⟩ : ByteArray) (((q + i) % 6 : Nat) : Int)]).size = 1 := rfl
    have z5 : x5.size = r.length + 1 := by rw [h5]; exact ba_size _
    rw [if_pos (by rw [z1]; omega), e1, wrapS (by omega) (by omega), show ((i : Int) + 1) = ((i + 1 : Nat) : Int) from by omega]
    exact ih (i + 1) _ (r ++ [_]) (by omega) (by omega) rfl (by rw [List.all_append, hr, Bool.true_and]; simp only [List.all_cons, List.all_nil, Bool.and_true]; exact hb) (by rw [List.length_append, List.length_singleton]; omega)
theorem LexNames_pure (a0 a1 : Int) : ∃ k, trammellaw2_LexNames.f k a0 a1 = some true := by
  have g0 := Int.emod_nonneg a1 (b := 32) (by decide)
  have g1 := Int.emod_lt_of_pos a1 (b := 32) (by decide)
  have he := Bits.and31 a1
  generalize a1 % 32 = e at *
  obtain ⟨e, rfl⟩ := Int.eq_ofNat_of_zero_le g0
  have hq := Bits.u64_mod a0 6 (by decide) (by decide)
  have q0 := Int.emod_nonneg (a0 % 18446744073709551616) (b := 6) (by decide)
  have q1 := Int.emod_lt_of_pos (a0 % 18446744073709551616) (b := 6) (by decide)
  generalize a0 % 18446744073709551616 % 6 = q at *
  obtain ⟨q, rfl⟩ := Int.eq_ofNat_of_zero_le q0
  refine ⟨1001 + e, ?_⟩
  unfold trammellaw2_LexNames.f
  rw [at_rounds trammellaw2_awake.mono (by omega : 300 ≤ 1001 + e) trammellaw2_awake.is, Option.bind_some, if_pos rfl]
  exact names_loop a0 a1 e he (by omega) q hq (by omega) e 0 (⟨#[113]⟩ : ByteArray) [] (by omega) (Nat.zero_le _) rfl rfl rfl
end Go.Proofs.YtnogfhhfklkbiaaDoor.H
