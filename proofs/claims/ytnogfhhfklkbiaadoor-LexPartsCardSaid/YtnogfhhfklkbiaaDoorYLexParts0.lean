/- Several texts in one: contracts of functions of the program, and what they lean on. In part written by a program of this session over the kit's print, in part by hand. -/
import Derived.Laws.BitsLemmas
import Derived.RowKit
import Derived.Test.YtnogfhhfklkbiaaDoorL5
import Derived.Test.YtnogfhhfklkbiaaDoorL0
set_option linter.unusedVariables false
namespace Go.Proofs.YtnogfhhfklkbiaaDoor.Bits
open Go.RowKit

theorem wrap_i64_mem {n : Int} (h0 : 0 ≤ n) (h1 : n < 2 ^ 63) : IntKind.i64.wrap n = n := by
  rw [IntKind.wrap_i64]
  omega

/-- A mask of the low bits, of any number. -/
theorem and_mask (i : Nat) (hi : i ≤ 62) (x : Int) : bits .and .i64 x (2 ^ i - 1) = x % 2 ^ i := by
  have hpos : 0 < 2 ^ i := Nat.two_pow_pos i
  have hle : 2 ^ i ≤ 2 ^ 62 := Nat.pow_le_pow_right (by decide) hi
  have hc : ((2 : Int) ^ i - 1) = ((2 ^ i - 1 : Nat) : Int) := by
    rw [Int.natCast_sub hpos]; simp
  have e : bits .and .i64 x (2 ^ i - 1) = IntKind.i64.wrap (((x % ((2 ^ 64 : Nat) : Int)).toNat &&& (2 ^ i - 1) : Nat) : Int) := by
    rw [hc]
    have hb : (2 ^ i - 1) % 2 ^ IntKind.i64.bits = 2 ^ i - 1 := Nat.mod_eq_of_lt (by
      show 2 ^ i - 1 < 2 ^ 64
      omega)
    simp only [bits, BitVec.ofInt_natCast, BitVec.toNat_and, BitVec.toNat_ofNat, BitVec.toNat_ofInt, hb]
    rfl
  rw [e, Nat.and_two_pow_sub_one_eq_mod]
  have hlt : (x % ((2 ^ 64 : Nat) : Int)).toNat % 2 ^ i < 2 ^ i := Nat.mod_lt _ hpos
  rw [wrap_i64_mem (by omega) (by omega)]
  have hn : (0 : Int) ≤ x % ((2 ^ 64 : Nat) : Int) := Int.emod_nonneg _ (by decide)
  rw [Int.natCast_emod, Int.toNat_of_nonneg hn]
  have hd : ((2 : Int) ^ i) ∣ ((2 ^ 64 : Nat) : Int) := by
    refine ⟨((2 ^ (64 - i) : Nat) : Int), ?_⟩
    have : (2 : Nat) ^ 64 = 2 ^ i * 2 ^ (64 - i) := by rw [← Nat.pow_add]; congr 1; omega
    rw [this]
    simp
  rw [show ((2 ^ i : Nat) : Int) = (2 : Int) ^ i from by simp]
  exact Int.emod_emod_of_dvd x hd

theorem or_join (i : Nat) (x y : Int) (hi : i ≤ 62) (hx0 : 0 ≤ x) (hx : x % 2 ^ i = 0) (hx1 : x < 2 ^ 62) (hy0 : 0 ≤ y) (hy : y < 2 ^ i) : bits .or .i64 x y = x + y :=
  bits_join .i64 62 (by decide) (fun n h0 h1 => wrap_i64_mem h0 (by omega)) i x y hx0 hx hx1 hy0 hy (by
    have : (2 : Int) ^ i ≤ 2 ^ 62 := by exact_mod_cast (Nat.pow_le_pow_right (by decide) hi : (2:Nat) ^ i ≤ 2 ^ 62)
    omega)

theorem and63 (x : Int) : bits .and .i64 x 63 = x % 64 := and_mask 6 (by decide) x
theorem and127 (x : Int) : bits .and .i64 x 127 = x % 128 := and_mask 7 (by decide) x
theorem and1023 (x : Int) : bits .and .i64 x 1023 = x % 1024 := and_mask 10 (by decide) x
theorem and31 (x : Int) : bits .and .i64 x 31 = x % 32 := and_mask 5 (by decide) x
theorem and3 (x : Int) : bits .and .i64 x 3 = x % 4 := and_mask 2 (by decide) x
theorem and1 (x : Int) : bits .and .i64 x 1 = x % 2 := and_mask 1 (by decide) x
theorem and1073741823 (x : Int) : bits .and .i64 x 1073741823 = x % 1073741824 := and_mask 30 (by decide) x
theorem or128 (y : Int) (h0 : 0 ≤ y) (h1 : y < 64) : bits .or .i64 128 y = 128 + y := or_join 6 128 y (by decide) (by decide) (by decide) (by decide) h0 h1
theorem or192 (y : Int) (h0 : 0 ≤ y) (h1 : y < 64) : bits .or .i64 192 y = 192 + y := or_join 6 192 y (by decide) (by decide) (by decide) (by decide) h0 h1
theorem or224 (y : Int) (h0 : 0 ≤ y) (h1 : y < 32) : bits .or .i64 224 y = 224 + y := or_join 5 224 y (by decide) (by decide) (by decide) (by decide) h0 h1
theorem or240 (y : Int) (h0 : 0 ≤ y) (h1 : y < 16) : bits .or .i64 240 y = 240 + y := or_join 4 240 y (by decide) (by decide) (by decide) (by decide) h0 h1
theorem u64_wrap (x : Int) : IntKind.u64.wrap x = x % 18446744073709551616 := by
  simp [IntKind.wrap, IntKind.bits, IntKind.signed]
/-- 'int(uint(x) % m)'. -/
theorem u64_mod (x m : Int) (hm0 : 0 < m) (hm : m ≤ 4294967296) : wrap64 (Int.tmod (IntKind.u64.wrap x) m) = (x % 18446744073709551616) % m := by
  have h0 : 0 ≤ x % 18446744073709551616 := Int.emod_nonneg _ (by decide)
  rw [u64_wrap, Int.tmod_eq_emod_of_nonneg h0]
  have h1 := Int.emod_nonneg (x % 18446744073709551616) (b := m) (by omega)
  have h2 := Int.emod_lt_of_pos (x % 18446744073709551616) hm0
  unfold wrap64
  omega
end Go.Proofs.YtnogfhhfklkbiaaDoor.Bits

set_option linter.unusedVariables false
set_option linter.unusedSimpArgs false
set_option maxHeartbeats 1000000
namespace Go.Proofs.YtnogfhhfklkbiaaDoor.H
open Go.RowKit Go.Proofs.YtnogfhhfklkbiaaDoorW.PrintWords Go.Proofs.YtnogfhhfklkbiaaDoorW.PrintLast Go.Proofs.YtnogfhhfklkbiaaDoorW.PrintMore
open Go.Proofs.YtnogfhhfklkbiaaDoor.Src

theorem bind_lit {α β : Type} {a b : α} (h : a = b) (F : α → Option β) : (some a).bind F = F b := by rw [h]; rfl
theorem ba_app (l m : List UInt8) : ba l ++ ba m = ba (l ++ m) := by
  apply bytes_ext
  rw [ByteArray.data_append]
  simp [ba]
theorem consT_len {p : Nat} {t : Tk} {l : List UInt8} {x y : Lexed} (h : t.2.2.2.2.2 = none → x = y) : consT p t x = consT p t y := by
  unfold consT
  cases he : t.2.2.2.2.2 with
  | some e => rfl
  | none => rw [h he]
theorem lexL_fuel : ∀ f g p l, l.length ≤ f → l.length ≤ g → lexL f p l = lexL g p l := by
  intro f
  induction f with
  | zero =>
    intro g p l h1 h2
    have : l = [] := List.eq_nil_of_length_eq_zero (by omega)
    subst this
    cases g <;> rfl
  | succ f ih =>
    intro g p l h1 h2
    cases l with
    | nil => cases g <;> rfl
    | cons c r =>
      obtain ⟨g, rfl⟩ : ∃ m, g = m + 1 := ⟨g - 1, by simp at h2; omega⟩
      simp only [List.length_cons] at h1 h2
      rw [lexL, lexL]
      by_cases hb : isBlank c = true
      · rw [if_pos hb, if_pos hb]
        exact ih g _ _ (by omega) (by omega)
      · rw [if_neg hb, if_neg hb]
        by_cases h35 : c = 35
        · have hn1 : 1 ≤ cutN 10 (c :: r) := by rw [h35]; simp [cutN, List.takeWhile_cons]
          rw [if_pos h35, if_pos h35]
          exact ih g _ _ (by rw [List.length_drop]; simp only [List.length_cons]; omega) (by rw [List.length_drop]; simp only [List.length_cons]; omega)
        · rw [if_neg h35, if_neg h35]
          refine consT_len (l := r) (fun he => ?_)
          obtain ⟨n, hn, hn1, hn2⟩ := tokL_len (l := c :: r) (by simp) he
          rw [hn, Int.toNat_natCast]
          exact ih g _ _ (by rw [List.length_drop]; simp only [List.length_cons]; omega) (by rw [List.length_drop]; simp only [List.length_cons]; omega)
def lexA (p : Nat) (l : List UInt8) : Lexed := lexL l.length p l
theorem lexA_nil (p : Nat) : lexA p [] = ([], none) := rfl
theorem lexA_blank (p : Nat) (c : UInt8) (r : List UInt8) (h : isBlank c = true) : lexA p (c :: r) = lexA (p + 1) r := by
  unfold lexA
  rw [List.length_cons, lexL, if_pos h]
theorem lexA_remark (p : Nat) (r : List UInt8) : lexA p (35 :: r) = lexA (p + cutN 10 (35 :: r)) ((35 :: r).drop (cutN 10 (35 :: r))) := by
  unfold lexA
  have hn1 : 1 ≤ cutN 10 (35 :: r) := by simp [cutN, List.takeWhile_cons]
  rw [List.length_cons, lexL, if_neg (by decide), if_pos rfl]
  exact lexL_fuel _ _ _ _ (by rw [List.length_drop]; simp only [List.length_cons]; omega) (Nat.le_refl _)
theorem lexA_tok (p : Nat) (c : UInt8) (r : List UInt8) (h : isBlank c = false) (h35 : c ≠ 35) : lexA p (c :: r) = consT p (tokL (c :: r)) (lexA (p + (tokL (c :: r)).2.2.2.2.1.toNat) ((c :: r).drop (tokL (c :: r)).2.2.2.2.1.toNat)) := by
  unfold lexA
  rw [List.length_cons, lexL, if_neg (by rw [h]; decide), if_neg h35]
  refine consT_len (l := r) (fun he => ?_)
  obtain ⟨n, hn, hn1, hn2⟩ := tokL_len (l := c :: r) (by simp) he
  rw [hn, Int.toNat_natCast]
  exact lexL_fuel _ _ _ _ (by rw [List.length_drop]; simp only [List.length_cons]; omega) (Nat.le_refl _)
/-- Of bytes below 128 a text is always in UTF-8. -/
theorem bad_ascii (s : ByteArray) (h : ∀ i (hi : i < s.data.toList.length), s.data.toList[i].toNat < 128) (i : Nat) : bad s i = none := by
  have hl := list_size s
  have hw : ∀ i, i < s.size → wd s i = 1 := by
    intro i hi
    have hb := bt_list s i _ (List.getElem?_eq_getElem (show i < s.data.toList.length by omega))
    have h1 := h i (by omega)
    unfold wd wd5
    rw [hb, if_neg (by omega), if_pos (by omega)]
    rfl
  refine walk (s := s) (P := fun i => bad s i = none) ?_ ?_ ?_ i
  · intro i h
    exact bad_end h
  · intro i h h0
    rw [hw i h] at h0
    cases h0
  · intro i h h0 ih
    rw [bad_on h h0]
    exact ih
theorem lexS_ascii (l : List UInt8) (hl : l.length ≤ 4096) (h : l.all (fun c => decide (c.toNat < 128)) = true) : lexS (ba l) = lexA 0 l := by
  unfold lexS
  rw [ba_size, if_neg (by omega), bad_ascii (ba l) (fun i hi => by
    have := List.all_eq_true.1 h _ (List.getElem_mem hi)
    simpa using this)]
  rfl
theorem tokS_ascii (l : List UInt8) (hl : l.length ≤ 4096) (h : l.all (fun c => decide (c.toNat < 128)) = true) : tokS (ba l) = ((lexA 0 l).1, (told2 (lexA 0 l).2).1, (told2 (lexA 0 l).2).2) := by
  unfold tokS
  rw [lexS_ascii l hl h]
theorem more_ascii : ∀ c, isMore c = true → c.toNat < 128 := byte_all (P := fun c => isMore c = true → c.toNat < 128) (by decide +kernel)
theorem dig_ascii : ∀ c, isDig c = true → isMore c = true ∧ isBlank c = false ∧ c ≠ 35 ∧ c ≠ 95 := byte_all (P := fun c => isDig c = true → isMore c = true ∧ isBlank c = false ∧ c ≠ 35 ∧ c ≠ 95) (by decide +kernel)
theorem tw_app (q : UInt8 → Bool) : ∀ (l m : List UInt8), l.all q = true → (m.takeWhile q = [] → (l ++ m).takeWhile q = l)
  | [], m, _, h => h
  | c :: l, m, hl, h => by
    rw [List.all_cons, Bool.and_eq_true] at hl
    rw [List.cons_append, List.takeWhile_cons_of_pos hl.1, tw_app q l m hl.2 h]
end Go.Proofs.YtnogfhhfklkbiaaDoor.H

namespace Go.Proofs.YtnogfhhfklkbiaaDoor.H
open Go.RowKit Go.Proofs.YtnogfhhfklkbiaaDoorW.PrintWords Go.Proofs.YtnogfhhfklkbiaaDoorW.PrintLast Go.Proofs.YtnogfhhfklkbiaaDoorW.PrintMore
attribute [local go_sem] max2_int min2_int max_two min_two max_three min_three max_four min_four   -- for this text's walks alone
set_option linter.unusedVariables false
set_option linter.unusedSimpArgs false

/-! ### trammellaw0_CopyTokens: function 35 -/
def trammellaw0_CopyTokens.f (l0 : List (S60)) : Option ((List (S60))) := (some (([] : List (S60)) : List (S60))).bind fun y249 => (if y249.length + l0.length < 3518437208883 then (some (y249 ++ l0)) else (none))
set_option maxHeartbeats 8000000 in
set_option maxRecDepth 100000 in
theorem trammellaw0_CopyTokens.calls (A0 : Option Addr) (c0 : Nat) (l0 : List (S60)) (r : List (S60)) (w : World) (hr0 : Kd.C k60 w A0 l0.length l0) (hc0 : l0.length ≤ c0) (h : trammellaw0_CopyTokens.f l0 = some r) :
    Calls Tryd.prog 35 #[.slice A0 l0.length c0] w fun e w' => ∃ v0_ : Value, e = .returned (v0_) ∧ Kd.R k60 60 w' w.heap.size (fun _ => True) v0_ r ∧ Below w.heap.size w w' := by
  have HR0 := Aside0.mk hr0
  have HC0 := Aside0.mk hc0
  clear hr0 hc0
  have HB := Aside0.mk (Below.refl w.heap.size w)
  have H : ((some (([] : List (S60)) : List (S60))).bind fun y249 => (if y249.length + l0.length < 3518437208883 then (some (y249 ++ l0)) else (none))) = some r := h
  clear h
  obtain ⟨y249, hy249⟩ : ∃ y_ : List (S60), y_ = (([] : List (S60))) := ⟨_, rfl⟩
  replace H : (if y249.length + l0.length < 3518437208883 then (some (y249 ++ l0)) else (none)) = some r := by first | (rw [hy249]; with_reducible exact H) | (have H2_ := (Option.bind_some _ _).symm.trans H; rw [hy249]; with_reducible exact H2_) | (have H2_ := (Option.bind_some _ _).symm.trans H; with_reducible exact H2_) | with_reducible exact H | (rw [hy249]; exact H) | exact H
  have Ny249 := Aside0.mk hy249
  clear hy249
  by_cases c2 : y249.length + l0.length < 3518437208883
  · rw [if_pos c2] at H
    have LMc2 := Aside0.mk c2
    clear c2
    obtain ⟨y252, hy252⟩ : ∃ y_ : List (S60), y_ = (y249 ++ l0) := ⟨_, rfl⟩
    replace H : (some y252) = some r := by first | (rw [hy252]; with_reducible exact H) | (have H2_ := (Option.bind_some _ _).symm.trans H; rw [hy252]; with_reducible exact H2_) | (have H2_ := (Option.bind_some _ _).symm.trans H; with_reducible exact H2_) | with_reducible exact H | (rw [hy252]; exact H) | exact H
    have Ny252 := Aside0.mk hy252
    clear hy252
    obtain rfl := Option.some.inj H
    go_enter Tryd.func35, Tryd.ntmps35
    go_wp2_with (first | ((with_reducible refine gate_dst (N := 3) rfl ?_); refine Kd.R_lit k60 _ 60 ?hg (N := 3) ?hd (xs := ([] : List (S60))) (inner := []) (ok := fun _ => True) (okp := fun _ => True) ?hr ?hp (fun _ hk => hk) trivial (Below.refl _ _) (Nat.le_refl _) (by simp) ?_; (case hd => rfl); (case hg => rfl); (case hr => first | (go_simp; done) | (go_simp; rfl)); (case hp => exact (Reps.none _ _)); intro v250 w3 ho4 hb hg_ hnew_; clear hg_ hnew_; (first | rw [← Ny249.out] at ho4 | (simp only [Int.reduceToNat] at ho4; rw [← Ny249.out] at ho4)); have n0_ := Aside0.mk (Kd.R_lower ho4 (below_size (by repeat (first | (with_reducible first | exact HB.out | apply below_alloc | apply pw_below_drewN | apply below_drew1) | exact HB.out)))); have n1_ := Aside0.mk (below_step (by repeat (first | (with_reducible first | exact HB.out | apply below_alloc | apply pw_below_drewN | apply below_drew1) | exact HB.out)) hb); clear HB; have HO251 := n0_; have HB := n1_; clear n0_ n1_; clear hb ho4) | ((with_reducible refine gate_builtin (b := .append) (xs := #[.tmp 3, .tmp 4]) rfl ?_); at_builtin; refine Kd.R_append_rows k60 (w0 := w) w.heap.size rfl (.tmp 3) (.tmp 4) 50 60 (.agg #[(.int .i64 0), (.string ⟨#[]⟩), (.int .i64 0), (.int .i64 0)]) 40 rfl Tryd.underlying50 info60 rfl (by decide) (by omega) v250 y249 l0 _ _ _ (fun _ => True) (fun _ => False) rfl rfl ?aO ?aR (fun _ _ h => h) (fun _ h => h.elim) ?aF ?aB ?aS ?aL ?_; (case aR => repeat (first | exact (Kd.C_below HR0.out HB.out) | (with_reducible refine Kd.C_alloc ?_ _) | (with_reducible refine Kd.C_drewN ?_ _) | (with_reducible refine Kd.C_drew ?_))); (case aB => exact (by repeat (first | (with_reducible first | exact HB.out | apply below_alloc | apply pw_below_drewN | apply below_drew1) | exact HB.out))); (case aF => exact (fun _ _ => trivial)); (case aO => exact (by (with_reducible repeat (first | apply Kd.R_alloc | apply Kd.R_drewN | apply Kd.R_drew)); exact HO251.out)); (case aS => exact (below_size (by repeat (first | (with_reducible first | exact HB.out | apply below_alloc | apply pw_below_drewN | apply below_drew1) | exact HB.out)))); (case aL => have := LMc2.out; omega); intro v253 w5 ho hb hg hat; rw [← Ny252.out] at ho; have n0_ := Aside0.mk (hb); have n1_ := Aside0.mk (ho); clear HB; clear HO251; have HB := n0_; have HO254 := n1_; clear n0_ n1_; clear ho hb hg hat))
    go_ret
    exact ⟨_, by first | rfl | (simp [errW_none, errW_some] <;> rfl) | (simp [*, errW_none, errW_some] <;> rfl), by (with_reducible repeat (first | apply Kd.R_alloc | apply Kd.R_drewN | apply Kd.R_drew)); exact HO254.out, by repeat (first | (with_reducible first | exact HB.out | apply below_alloc | apply pw_below_drewN | apply below_drew1) | exact HB.out)⟩
  · rw [if_neg c2] at H
    exact absurd H (by simp)

end Go.Proofs.YtnogfhhfklkbiaaDoor.H
