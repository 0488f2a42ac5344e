/- Several texts in one: contracts of functions of the program, and what they lean on. In part written by a program of this session over the kit's print, in part by hand. -/
import Derived.Test.YtnogfhhfklkbiaaDoorYTrees10
import Derived.Test.YtnogfhhfklkbiaaDoorYTrees13
import Derived.Test.YtnogfhhfklkbiaaDoorYTrees2
import Derived.Test.YtnogfhhfklkbiaaDoorYTrees6
import Derived.Test.YtnogfhhfklkbiaaDoorYTrees7
import Derived.Test.YtnogfhhfklkbiaaDoorYTrees8
set_option linter.unusedVariables false
set_option linter.unusedSimpArgs false
set_option maxHeartbeats 1000000
namespace Go.Proofs.YtnogfhhfklkbiaaDoor.H
open Go.RowKit Go.Proofs.YtnogfhhfklkbiaaDoorW.PrintWords Go.Proofs.YtnogfhhfklkbiaaDoorW.PrintLast Go.Proofs.YtnogfhhfklkbiaaDoorW.PrintMore
open Go.Proofs.YtnogfhhfklkbiaaDoor.Src
theorem first_is (c : UInt8) : trammelref1_first.f (c.toNat : Int) = some (isLet c) := by
  unfold trammelref1_first.f isLet
  by_cases h : (c.toNat : Int) ≥ 97
  · rw [if_pos h]
    have : decide (97 ≤ c.toNat) = true := decide_eq_true (by omega)
    rw [this, Bool.true_and]
    congr 1
    by_cases g : c.toNat ≤ 122
    · rw [decide_eq_true g, decide_eq_true (by omega)]
    · rw [decide_eq_false g, decide_eq_false (by omega)]
  · rw [if_neg h]
    have : decide (97 ≤ c.toNat) = false := decide_eq_false (by omega)
    rw [this, Bool.false_and]
theorem digit_is (c : UInt8) : trammelref1_digit.f (c.toNat : Int) = some (isDig c) := by
  unfold trammelref1_digit.f isDig
  by_cases h : (c.toNat : Int) ≥ 48
  · rw [if_pos h]
    have : decide (48 ≤ c.toNat) = true := decide_eq_true (by omega)
    rw [this, Bool.true_and]
    congr 1
    by_cases g : c.toNat ≤ 57
    · rw [decide_eq_true g, decide_eq_true (by omega)]
    · rw [decide_eq_false g, decide_eq_false (by omega)]
  · rw [if_neg h]
    have : decide (48 ≤ c.toNat) = false := decide_eq_false (by omega)
    rw [this, Bool.false_and]
theorem byte_beq (c : UInt8) (n : Nat) (h : n < 256) : ((c.toNat : Int) == (n : Int)) = (c == UInt8.ofNat n) := by
  by_cases e : c = UInt8.ofNat n
  · subst e
    simp
    omega
  · rw [beq_eq_false_iff_ne.2 e]
    rw [beq_eq_false_iff_ne]
    intro hh
    apply e
    apply UInt8.toNat_inj.1
    simp
    omega
theorem later_is (c : UInt8) : trammelref1_later.f (c.toNat : Int) = some (isMore c) := by
  unfold trammelref1_later.f isMore
  rw [first_is, Option.bind_some]
  cases isLet c
  · rw [if_neg (by decide), digit_is, Option.bind_some]
    cases isDig c
    · rw [if_neg (by decide)]
      have := byte_beq c 95 (by decide)
      rw [show ((95 : Nat) : Int) = 95 from rfl] at this
      rw [this]
      rfl
    · rfl
  · rfl
def lettersL : List UInt8 → Bool
  | [] => false
  | c :: r => isLet c && r.all isMore
theorem lettersL_cons (c : UInt8) (r : List UInt8) : lettersL (c :: r) = (isLet c && r.all isMore) := rfl
theorem letters_loop (s : ByteArray) (hs : s.size ≤ 1152921504606846976) : ∀ (d i k : Nat), s.size - i = d → d < k → trammelref1_letters.l0 k s (i : Int) = some ((s.data.toList.drop i).all isMore) := by
  have hl := list_size s
  intro d
  induction d with
  | zero =>
    intro i k hd hk
    obtain ⟨k, rfl⟩ : ∃ m, k = m + 1 := ⟨k - 1, by omega⟩
    simp only [trammelref1_letters.l0]
    rw [if_neg (by omega), List.drop_eq_nil_of_le (by omega)]
    rfl
  | succ d ih =>
    intro i k hd hk
    obtain ⟨k, rfl⟩ : ∃ m, k = m + 1 := ⟨k - 1, by omega⟩
    have hlt : i < s.data.toList.length := by omega
    simp only [trammelref1_letters.l0]
    rw [if_pos (by omega), if_pos (by omega), bt_list s i _ (List.getElem?_eq_getElem hlt), later_is, Option.bind_some, List.drop_eq_getElem_cons hlt, List.all_cons]
    cases isMore s.data.toList[i]
    · rfl
    · rw [if_pos rfl, wrapS (by omega) (by omega), show ((i : Int) + 1) = ((i + 1 : Nat) : Int) from by omega, ih (i + 1) k (by omega) (by omega), Bool.true_and]
theorem letters_is (s : ByteArray) (hs : s.size ≤ 1152921504606846976) (k : Nat) (hk : s.size + 3 ≤ k) : trammelref1_letters.f k s = some (lettersL s.data.toList) := by
  obtain ⟨k, rfl⟩ : ∃ m, k = m + 1 := ⟨k - 1, by omega⟩
  have hl := list_size s
  unfold trammelref1_letters.f
  rw [toList_data]
  by_cases h0 : s.data.toList = []
  · rw [if_pos h0, h0]
    rfl
  · rw [if_neg h0]
    obtain ⟨c, r, hcr⟩ := List.exists_cons_of_ne_nil h0
    have hz : 0 < s.size := by rw [← hl, hcr]; exact Nat.succ_pos _
    have hb : bt s 0 = (c.toNat : Int) := bt_list s 0 c (by rw [hcr]; rfl)
    rw [if_pos (by omega), hb, first_is, Option.bind_some]
    have lp := letters_loop s hs (s.size - 1) 1 k rfl (by omega)
    rw [show ((1 : Nat) : Int) = 1 from rfl] at lp
    simp only [trammelref1_letters.j0]
    rw [lp, hcr, lettersL_cons, List.drop_one, List.tail_cons]
    cases isLet c <;> simp
def wordsL : List UInt8 := [32, 102, 117, 110, 32, 108, 101, 116, 32, 114, 101, 99, 32, 105, 110, 32, 105, 102, 32, 116, 104, 101, 110, 32, 101, 108, 115, 101, 32, 104, 97, 110, 100, 108, 101, 32, 119, 105, 116, 104, 32, 114, 101, 116, 117, 114, 110, 32, 101, 110, 100, 32, 100, 111, 32, 111, 112, 32, 116, 114, 117, 101, 32, 102, 97, 108, 115, 101, 32, 105, 110, 116, 32, 98, 111, 111, 108, 32]
def kwS (t : List UInt8) : Nat → Nat → Bool
  | 0, _ => false
  | d + 1, i => if i + t.length ≤ 78 then ((wordsL.drop i).take t.length == t || kwS t d (i + 1)) else false
theorem kwS_iff (t : List UInt8) : ∀ d i, 79 ≤ d + i → (kwS t d i = true ↔ ∃ j, i ≤ j ∧ j + t.length ≤ 78 ∧ (wordsL.drop j).take t.length = t) := by
  intro d
  induction d with
  | zero =>
    intro i h
    simp only [kwS, Bool.false_eq_true, false_iff]
    rintro ⟨j, h1, h2, _⟩
    omega
  | succ d ih =>
    intro i h
    unfold kwS
    by_cases hi : i + t.length ≤ 78
    · rw [if_pos hi, Bool.or_eq_true, beq_iff_eq, ih (i + 1) (by omega)]
      constructor
      · rintro (h1 | ⟨j, h1, h2, h3⟩)
        · exact ⟨i, Nat.le_refl _, hi, h1⟩
        · exact ⟨j, by omega, h2, h3⟩
      · rintro ⟨j, h1, h2, h3⟩
        by_cases e : j = i
        · subst e; exact .inl h3
        · exact .inr ⟨j, by omega, h2, h3⟩
    · rw [if_neg hi]
      simp only [Bool.false_eq_true, false_iff]
      rintro ⟨j, h1, h2, _⟩
      omega
theorem words_all : ∀ (i n : Fin 79), (let g := (wordsL.drop i.val).take (n.val + 2); !(g.length == n.val + 2 && (g.head? == some 32 && (g.getLast? == some 32 && lettersL (g.tail.dropLast)))) || kw (g.tail.dropLast)) = true := by decide +kernel
theorem kw_found : (kwL.all fun l => kwS (32 :: (l ++ [32])) 80 0 && lettersL l) = true := by decide +kernel
theorem kwS_kw (l : List UInt8) : (lettersL l && kwS (32 :: (l ++ [32])) 80 0) = kw l := by
  by_cases hk : kw l = true
  · have := List.all_eq_true.1 kw_found l (by unfold kw at hk; exact List.contains_iff_mem.1 hk)
    rw [Bool.and_eq_true] at this
    rw [hk, this.1, this.2]
    rfl
  · rw [Bool.not_eq_true] at hk
    rw [hk]
    rw [Bool.eq_false_iff]
    intro h
    rw [Bool.and_eq_true, kwS_iff _ _ _ (by decide)] at h
    obtain ⟨hlet, j, _, h2, h3⟩ := h
    have hlen : (32 :: (l ++ [32])).length = l.length + 2 := by simp
    rw [hlen] at h2 h3
    have w := words_all ⟨j, by omega⟩ ⟨l.length, by omega⟩
    simp only at w
    rw [h3] at w
    have e1 : (32 :: (l ++ [32])).tail.dropLast = l := by simp
    have e2 : (32 :: (l ++ [32])).getLast? = some 32 := by
      rw [← List.cons_append, List.getLast?_append]; rfl
    rw [e1, e2, hlen, hlet, hk] at w
    simp at w
theorem extract_any (s : ByteArray) (i j : Nat) : (s.extract i j).data.toList = (s.data.toList.drop i).take (j - i) := by
  simp
theorem refKw_loop (t : ByteArray) (hs : t.size ≤ 1000000000000000) : ∀ (d i k : Nat), d + i = 80 → i ≤ 80 → d < k → trammelref1_Keyword.l0 k t (i : Int) = some (kwS t.data.toList d i) := by
  have hl := list_size t
  intro d
  induction d with
  | zero =>
    intro i k hd hi hk
    obtain ⟨k, rfl⟩ : ∃ m, k = m + 1 := ⟨k - 1, by omega⟩
    simp only [trammelref1_Keyword.l0]
    rw [wrapS (by omega) (by omega), if_neg (by omega)]
    rfl
  | succ d ih =>
    intro i k hd hi hk
    obtain ⟨k, rfl⟩ : ∃ m, k = m + 1 := ⟨k - 1, by omega⟩
    simp only [trammelref1_Keyword.l0]
    unfold kwS
    rw [wrapS (by omega) (by omega), hl]
    by_cases h : i + t.size ≤ 78
    · rw [if_pos (by omega), if_pos (by omega), if_pos (by omega), if_pos h, toList_data, toList_data, extract_any, show ((i : Int) + (t.size : Int)).toNat - (i : Int).toNat = t.size from by omega, Int.toNat_natCast]
      change (if (wordsL.drop i).take t.size = t.data.toList then some true else trammelref1_Keyword.l0 k t (wrap64 ((i : Int) + 1))) = _
      by_cases e : (wordsL.drop i).take t.size = t.data.toList
      · have e' : ((wordsL.drop i).take t.size == t.data.toList) = true := beq_iff_eq.2 e
        rw [e', if_pos e]
        rfl
      · have e' : ((wordsL.drop i).take t.size == t.data.toList) = false := beq_eq_false_iff_ne.2 e
        rw [e', if_neg e, wrapS (by omega) (by omega), show ((i : Int) + 1) = ((i + 1 : Nat) : Int) from by omega, ih (i + 1) k (by omega) (by omega) (by omega), Bool.false_or]
    · rw [if_neg (by omega), if_neg h]
theorem refKw_is (s : ByteArray) (hs : s.size ≤ 562949953421312) (k : Nat) (hk : s.size + 100 ≤ k) : trammelref1_Keyword.f k s = some (kw s.data.toList) := by
  unfold trammelref1_Keyword.f
  rw [letters_is s (by omega) k (by omega), Option.bind_some, ← kwS_kw]
  cases hL : lettersL s.data.toList
  · rw [if_neg (by decide), Bool.false_and]
  · have z1 : ((⟨#[32]⟩ : ByteArray) ++ s).size = 1 + s.size := by rw [ByteArray.size_append]; rfl
    have z2 : (((⟨#[32]⟩ : ByteArray) ++ s) ++ (⟨#[32]⟩ : ByteArray)).size = 1 + s.size + 1 := by rw [ByteArray.size_append, z1]; rfl
    rw [if_pos rfl, if_pos (by omega), if_pos (by rw [z1]; omega), Bool.true_and]
    have := refKw_loop (((⟨#[32]⟩ : ByteArray) ++ s) ++ (⟨#[32]⟩ : ByteArray)) (by rw [z2]; omega) 80 0 k rfl (by decide) (by omega)
    rw [show ((0 : Nat) : Int) = 0 from rfl] at this
    rw [this]
    congr 2
end Go.Proofs.YtnogfhhfklkbiaaDoor.H

set_option linter.unusedVariables false
set_option linter.unusedSimpArgs false
set_option maxHeartbeats 1000000
namespace Go.Proofs.YtnogfhhfklkbiaaDoor.H
open Go.RowKit Go.Proofs.YtnogfhhfklkbiaaDoorW.PrintWords Go.Proofs.YtnogfhhfklkbiaaDoorW.PrintLast Go.Proofs.YtnogfhhfklkbiaaDoorW.PrintMore
def refKids (a : Int) : Int := if 0 ≤ a ∧ a ≤ 10 then (kidsN a : Int) else -1
theorem refKids_some (k : Nat) (hk : 3 ≤ k) (a : Int) : trammelref1_kids.f k a = some (refKids a) := by
  have : ∃ c, trammelref1_kids.f k a = some c := by
    obtain ⟨k, rfl⟩ : ∃ n, k = n + 3 := ⟨k - 3, by omega⟩
    have hc : a = 0 ∨ a = 1 ∨ a = 2 ∨ a = 3 ∨ a = 4 ∨ a = 5 ∨ a = 6 ∨ a = 7 ∨ a = 8 ∨ a = 9 ∨ a = 10 ∨ (¬ a = 0 ∧ ¬ a = 1 ∧ ¬ a = 2 ∧ ¬ a = 3 ∧ ¬ a = 4 ∧ ¬ a = 5 ∧ ¬ a = 6 ∧ ¬ a = 7 ∧ ¬ a = 8 ∧ ¬ a = 9 ∧ ¬ a = 10) := by omega
    rcases hc with rfl | rfl | rfl | rfl | rfl | rfl | rfl | rfl | rfl | rfl | rfl | ⟨n0, n1, n2, n3, n4, n5, n6, n7, n8, n9, n10⟩
    · exact ⟨_, rfl⟩
    · exact ⟨_, rfl⟩
    · exact ⟨_, rfl⟩
    · exact ⟨_, rfl⟩
    · exact ⟨_, rfl⟩
    · exact ⟨_, rfl⟩
    · exact ⟨_, rfl⟩
    · exact ⟨_, rfl⟩
    · exact ⟨_, rfl⟩
    · exact ⟨_, rfl⟩
    · exact ⟨_, rfl⟩
    · have e : ∀ n : Int, (a == n) = decide (a = n) := fun n => by by_cases q : a = n <;> simp [q]
      simp only [trammelref1_kids.f, trammelref1_kids.j0, trammelref1_kids.j1, trammelref1_kids.j2, e, n0, n1, n2, n3, n4, n5, n6, n7, n8, n9, n10, decide_false, Bool.false_eq_true, if_false]
      exact ⟨_, rfl⟩
  obtain ⟨c, hc⟩ := this
  rw [hc, refKids_is hc]
  rfl
theorem kids_out {a : Int} (h : ¬ (0 ≤ a ∧ a ≤ 10)) : kidsN a = 0 := by
  unfold kidsN
  rw [if_neg (by omega), if_neg (by omega), if_neg (by omega)]
theorem begin_rounds (l : List S45) (b : Int) (h0 : 0 ≤ b) (h1 : b + 1 < (l.length : Int)) (hl : l.length ≤ 512) : tree_Begin.f l.length l b = some (beginS l b) := by
  obtain ⟨r, hr, _⟩ := begin_some l b.toNat b l.length h0 (by omega) rfl (by omega) (by omega)
  have := at_rounds (tree_Begin.mono l b) (Nat.le_succ l.length) hr
  rw [begin_is l b (l.length + 1) h0 (by omega) (by omega) (by omega)] at this
  rw [hr, ← this]
theorem ref_begin (l : List S45) (hl : l.length ≤ 512) : ∀ (n : Nat) (a : Int) (k : Nat), 0 ≤ a → a < (l.length : Int) → a.toNat = n → 12 * n + 16 ≤ k → trammelref1_Begin.f k l a = some (beginS l a) := by
  intro n
  induction n using Nat.strongRecOn with
  | _ n ih =>
    intro a k h0 h1 hn hk
    obtain ⟨k, rfl⟩ : ∃ m, k = m + 1 := ⟨k - 1, by omega⟩
    rw [trammelref1_Begin.f, if_pos h0, if_pos h1, refKids_some k (by omega), Option.bind_some]
    have hx := begin_goB l a h0 h1 hl
    generalize hxx : rd_T45 l a = x at *
    have loop : ∀ (c : Nat), c ≤ 3 → ∀ (p : Int) (K : Nat), 0 ≤ p → p ≤ a → 12 * n + 4 + 3 * c ≤ K → trammelref1_Begin.l0 K l a p (c : Int) = goB (tree_Begin.f l.length l) ([x.f1, x.f2, x.f3].take c).reverse p := by
      intro c
      induction c with
      | zero =>
        intro _ p K p0 p1 hK
        obtain ⟨K, rfl⟩ : ∃ m, K = m + 1 := ⟨K - 1, by omega⟩
        rw [trammelref1_Begin.l0, if_neg (by omega)]
        rfl
      | succ c ihc =>
        intro hc p K p0 p1 hK
        obtain ⟨K, rfl⟩ : ∃ m, K = m + 3 := ⟨K - 3, by omega⟩
        obtain ⟨ch, hch, hl0⟩ : ∃ ch, ([x.f1, x.f2, x.f3].take (c + 1)).reverse = ch :: ([x.f1, x.f2, x.f3].take c).reverse ∧ trammelref1_Begin.l0 (K + 3) l a p ((c + 1 : Nat) : Int) = trammelref1_Begin.j1 (K + 2) l a p ((c + 1 : Nat) : Int) ch := by
          match c, hc with
          | 0, _ => exact ⟨x.f1, rfl, by rw [trammelref1_Begin.l0, if_pos (by omega), if_pos h0, if_pos h1, if_neg (by omega), if_neg (by omega), hxx]⟩
          | 1, _ => exact ⟨x.f2, rfl, by rw [trammelref1_Begin.l0, if_pos (by omega), if_pos h0, if_pos h1, if_pos (by omega), hxx]⟩
          | 2, _ => exact ⟨x.f3, rfl, by rw [trammelref1_Begin.l0, if_pos (by omega), if_pos h0, if_pos h1, if_neg (by omega), if_pos (by omega), hxx]⟩
        have hw : wrap64 (p - 1) = p - 1 := by unfold wrap64; omega
        rw [hl0, hch, trammelref1_Begin.j1, goB, hw]
        by_cases e : ch = p - 1
        · rw [if_pos e, trammelref1_Begin.j2]
          by_cases g : p - 1 < 0
          · rw [if_pos g, if_pos (decide_eq_true (by omega))]
          · rw [if_neg g, if_neg (by simp; omega), if_pos e, e, ih (p - 1).toNat (by omega) (p - 1) K (by omega) (by omega) rfl (by omega), begin_rounds l (p - 1) (by omega) (by omega) hl, Option.bind_some, Option.bind_some]
            by_cases g2 : beginS l (p - 1) < 0
            · rw [if_pos g2, if_pos g2]
            · rw [if_neg g2, if_neg g2, show wrap64 (((c + 1 : Nat) : Int) - 1) = (c : Int) from by rw [wrapS (by omega) (by omega)]; omega]
              have := begin_range l (p - 1) (by omega) (by omega) (by omega)
              exact ihc (by omega) (beginS l (p - 1)) K (by omega) (by omega) (by omega)
        · rw [if_neg e, trammelref1_Begin.j2, if_pos rfl]
          by_cases g : p - 1 < 0
          · rw [if_pos g]
          · rw [if_neg g, if_neg e]
    unfold refKids
    by_cases hr : 0 ≤ x.f0 ∧ x.f0 ≤ 10
    · rw [if_pos hr, loop (kidsN x.f0) (kidsN_le _) a k h0 (Int.le_refl _) (by have := kidsN_le x.f0; omega)]
      exact hx
    · rw [if_neg hr]
      obtain ⟨k, rfl⟩ : ∃ m, k = m + 1 := ⟨k - 1, by omega⟩
      rw [trammelref1_Begin.l0, if_neg (by omega)]
      rw [kidsOf, kids_out hr] at hx
      exact hx
theorem size_list (s : ByteArray) : s.data.toList.length = s.size := by rw [Array.length_toList]; rfl
theorem refName_is (s : ByteArray) (k : Nat) (hk : 200 ≤ k) : trammelref1_NameMay.f k s = some (nm s.data.toList) := by
  unfold trammelref1_NameMay.f
  have hs := size_list s
  by_cases h : s.size ≤ 16
  · rw [if_pos (by omega), letters_is s (by omega) k (by omega), refKw_is s (by omega) k (by omega)]
    simp only [Option.bind_some]
    unfold nm
    cases hl : s.data.toList with
    | nil => simp [lettersL]
    | cons c r =>
      rw [hl] at hs
      simp only [lettersL, List.length_cons] at *
      have key : ∀ (u v w : Bool) (n : Nat), n + 1 ≤ 16 → ((if (u && v) = true then some (!w) else some false) : Option Bool) = some (decide (n < 16) && (u && (v && !w))) := by
        intro u v w n h
        cases u <;> cases v <;> simp
        omega
      exact key _ _ _ _ (by omega)
  · rw [if_neg (by omega)]
    unfold nm
    cases hl : s.data.toList with
    | nil => rfl
    | cons c r =>
      rw [hl] at hs
      simp only [List.length_cons] at *
      simp
      omega
theorem refOps_loop (os : List S48) (hl : os.length ≤ 1000) : ∀ (d i k : Nat), os.length - i = d → i ≤ os.length → d + 250 ≤ k → trammelref1_opsMay.l0 k os (i : Int) = some ((os.drop i).all opMayS) := by
  intro d
  induction d with
  | zero =>
    intro i k hd hi hk
    obtain ⟨k, rfl⟩ : ∃ m, k = m + 1 := ⟨k - 1, by omega⟩
    rw [trammelref1_opsMay.l0, if_neg (by omega), List.drop_eq_nil_of_le (by omega)]
    rfl
  | succ d ih =>
    intro i k hd hi hk
    obtain ⟨k, rfl⟩ : ∃ m, k = m + 1 := ⟨k - 1, by omega⟩
    have hlt : i < os.length := by omega
    have hrd : rd_T48 os (i : Int) = os[i] := by
      rw [rd_T48, Int.toNat_natCast, List.getD_eq_getElem?_getD, List.getElem?_eq_getElem hlt]
      rfl
    rw [trammelref1_opsMay.l0, if_pos (by omega), if_pos (by omega), hrd, refName_is _ k (by omega), List.drop_eq_getElem_cons hlt, List.all_cons, show wrap64 ((i : Int) + 1) = ((i + 1 : Nat) : Int) from by rw [wrapS (by omega) (by omega)]; omega]
    have hih := ih (i + 1) k (by omega) (by omega) (by omega)
    rw [hih]
    have hb : ∀ a : Int, trammelref1_basic.f a = some (a == 0 || a == 1) := fun a => by
      unfold trammelref1_basic.f
      by_cases h : a = 0 <;> simp [h]
    simp only [hb, Option.bind_some, opMayS]
    cases nm os[i].f0.data.toList <;> cases (os[i].f1 == 0 || os[i].f1 == 1) <;> cases (os[i].f2 == 0 || os[i].f2 == 1) <;> simp
theorem refOps_is (os : List S48) (k : Nat) (hk : 300 ≤ k) : trammelref1_opsMay.f k os = some (opsMayS os) := by
  unfold trammelref1_opsMay.f opsMayS
  by_cases h : os.length ≤ 4
  · rw [if_neg (by omega)]
    have := refOps_loop os (by omega) os.length 0 k rfl (Nat.zero_le _) (by omega)
    rw [show ((0 : Nat) : Int) = 0 from rfl] at this
    rw [this]
    simp [h]
  · rw [if_pos (by omega)]
    simp [h]
def boundS (x y : S45) : Bool × S45 :=
  if x.f0 = 0 ∨ x.f0 = 9 then (nm x.f5.data.toList, y)
  else if x.f0 = 3 ∨ x.f0 = 5 then (nm x.f6.data.toList, { y with f6 := x.f6 })
  else if x.f0 = 6 then (nm x.f6.data.toList && nm x.f7.data.toList, { y with f6 := x.f6, f7 := x.f7 })
  else if x.f0 = 10 then (nm x.f5.data.toList && (nm x.f6.data.toList && (nm x.f7.data.toList && nm x.f8.data.toList)), { y with f6 := x.f6, f7 := x.f7, f8 := x.f8 })
  else (true, y)
theorem refBound_is (x y : S45) (k : Nat) (hk : 300 ≤ k) : trammelref1_bound.f k x.f0 x.f1 x.f2 x.f3 x.f4 x.f5 x.f6 x.f7 x.f8 x.f9 y.f0 y.f1 y.f2 y.f3 y.f4 y.f5 y.f6 y.f7 y.f8 y.f9 =
    some ((boundS x y).1, (boundS x y).2.f0, (boundS x y).2.f1, (boundS x y).2.f2, (boundS x y).2.f3, (boundS x y).2.f4, (boundS x y).2.f5, (boundS x y).2.f6, (boundS x y).2.f7, (boundS x y).2.f8, (boundS x y).2.f9) := by
  obtain ⟨k, rfl⟩ : ∃ m, k = m + 2 := ⟨k - 2, by omega⟩
  have hN : ∀ (s : ByteArray) (j : Nat), j = k + 1 ∨ j = k → trammelref1_NameMay.f j s = some (nm s.data.toList) := fun s j hj => refName_is s j (by omega)
  unfold trammelref1_bound.f
  unfold boundS
  simp only [trammelref1_bound.j0, trammelref1_bound.j1, hN _ _ (Or.inl rfl), hN _ _ (Or.inr rfl), Option.bind_some]
  by_cases h0 : x.f0 = 0
  · simp [h0]
  · by_cases h9 : x.f0 = 9
    · simp [h9]
    · by_cases h3 : x.f0 = 3
      · simp [h3]
      · by_cases h5 : x.f0 = 5
        · simp [h5]
        · by_cases h6 : x.f0 = 6
          · simp [h6]
            cases nm x.f6.data.toList <;> simp
          · by_cases h10 : x.f0 = 10
            · simp [h10]
              cases nm x.f5.data.toList <;> cases nm x.f6.data.toList <;> cases nm x.f7.data.toList <;> simp
            · simp [h0, h9, h3, h5, h6, h10]
def fieldsS (x : S45) (named : Bool) : Bool :=
  (if named = true then (boundS x (refY x true)).1 else true) && (decide (refKids x.f0 ≥ 0) && (refEq x (if named = true then (boundS x (refY x true)).2 else refY x false) && (decide (x.f9 ≥ 0) && decide (x.f9 ≤ 4096))))
theorem refFields_is (x : S45) (named : Bool) (k : Nat) (hk : 300 ≤ k) : trammelref1_fields.f k x.f0 x.f1 x.f2 x.f3 x.f4 x.f5 x.f6 x.f7 x.f8 x.f9 named = some (fieldsS x named) := by
  have hx : (⟨x.f0, x.f1, x.f2, x.f3, x.f4, x.f5, x.f6, x.f7, x.f8, x.f9⟩ : S45) = x := rfl
  unfold trammelref1_fields.f fieldsS
  rw [refKids_some k (by omega), Option.bind_some]
  simp only [hx]
  cases named
  · rw [if_neg (by decide), Option.bind_some, if_pos rfl, if_neg (by decide), if_neg (by decide), Bool.true_and]
  · rw [if_pos rfl, refBound_is x (refY x true) k hk, Option.bind_some]
    simp only [if_true]
    cases (boundS x (refY x true)).1
    · rfl
    · rfl
def numsS (x : S45) : Bool := if x.f0 = 1 then decide (x.f4 ≥ 0) && decide (x.f4 ≤ 1073741823) else if x.f0 = 2 then x.f4 == 0 || x.f4 == 1 else if x.f0 = 8 then decide (x.f4 ≥ 0) && decide (x.f4 ≤ 5) else true
theorem refNums_is (x : S45) : trammelref1_nums.f x.f0 x.f1 x.f2 x.f3 x.f4 x.f5 x.f6 x.f7 x.f8 x.f9 = some (numsS x) := by
  unfold trammelref1_nums.f numsS
  by_cases h1 : x.f0 = 1
  · by_cases h4 : x.f4 ≥ 0 <;> simp [h1, h4]
  · by_cases h2 : x.f0 = 2
    · by_cases h4 : x.f4 = 0 <;> simp [h2, h4]
    · by_cases h8 : x.f0 = 8
      · by_cases h4 : x.f4 ≥ 0 <;> simp [h8, h4]
      · simp [h1, h2, h8]
theorem isEmpty_beq (l : List UInt8) : (l == []) = l.isEmpty := by cases l <;> rfl
theorem nil_bytes : (⟨#[]⟩ : ByteArray).toList = [] := by rw [toList_data]
theorem may_ref (x : S45) (named : Bool) : (fieldsS x named && numsS x) = mayS x named := by
  obtain ⟨f0, f1, f2, f3, f4, f5, f6, f7, f8, f9⟩ := x
  have hcs : f0 = 0 ∨ f0 = 1 ∨ f0 = 2 ∨ f0 = 3 ∨ f0 = 4 ∨ f0 = 5 ∨ f0 = 6 ∨ f0 = 7 ∨ f0 = 8 ∨ f0 = 9 ∨ f0 = 10 ∨ (¬ f0 = 0 ∧ ¬ f0 = 1 ∧ ¬ f0 = 2 ∧ ¬ f0 = 3 ∧ ¬ f0 = 4 ∧ ¬ f0 = 5 ∧ ¬ f0 = 6 ∧ ¬ f0 = 7 ∧ ¬ f0 = 8 ∧ ¬ f0 = 9 ∧ ¬ f0 = 10) := by omega
  rcases hcs with rfl | rfl | rfl | rfl | rfl | rfl | rfl | rfl | rfl | rfl | rfl | ⟨n0, n1, n2, n3, n4, n5, n6, n7, n8, n9, n10⟩
  case' inr.inr.inr.inr.inr.inr.inr.inr.inr.inr.inr =>
    have hn : ¬ (0 ≤ f0 ∧ f0 ≤ 10) := by omega
    have l : fieldsS ⟨f0, f1, f2, f3, f4, f5, f6, f7, f8, f9⟩ named = false := by
      unfold fieldsS refKids
      simp [hn]
    have r : mayS ⟨f0, f1, f2, f3, f4, f5, f6, f7, f8, f9⟩ named = false := by
      unfold mayS
      by_cases q : 0 ≤ f0
      · simp [q, show ¬ f0 ≤ 10 from by omega]
      · simp [q]
    rw [l, r]
    rfl
  all_goals
    cases named
    all_goals
      simp [fieldsS, numsS, mayS, refKids, kidsN, boundS, refY, refEq, mostN, namesOf, noNames, noKids, noNum, bareNode, isEmpty_beq, nil_bytes]
      try (rw [Bool.eq_iff_iff]; simp; grind)
end Go.Proofs.YtnogfhhfklkbiaaDoor.H

set_option linter.unusedVariables false
set_option linter.unusedSimpArgs false
set_option maxHeartbeats 1000000
namespace Go.Proofs.YtnogfhhfklkbiaaDoor.H
open Go.RowKit Go.Proofs.YtnogfhhfklkbiaaDoorW.PrintWords Go.Proofs.YtnogfhhfklkbiaaDoorW.PrintLast Go.Proofs.YtnogfhhfklkbiaaDoorW.PrintMore
theorem ks_cons {L : List S45} {c : Int} {cs : List Int} {p r m : Int} (h : Ks L (c :: cs) p r m) : ∃ q d m', c = p - 1 ∧ 0 ≤ p - 1 ∧ p - 1 < (L.length : Int) ∧ Ks L (kidsOf (rd_T45 L c)).reverse c q d ∧ Ks L cs q r m' ∧ m = mx (d + 1) m' := by
  cases h with
  | cons _ q _ d m' _ g0 g1 k1 k2 => exact ⟨q, d, m', rfl, g0, g1, k1, k2, rfl⟩
theorem ks_nil {L : List S45} {p r m : Int} (h : Ks L [] p r m) : p = r ∧ m = 0 := by
  cases h
  exact ⟨rfl, rfl⟩
theorem ref_depth (L : List S45) (hl : L.length ≤ 512) : ∀ (n : Nat) (a : Int) (k : Nat) (r m : Int), 0 ≤ a → a < (L.length : Int) → a.toNat = n → Ks L (kidsOf (rd_T45 L a)).reverse a r m → 2 * n + 8 ≤ k → trammelref1_depth.f k L a = some (m + 1) := by
  intro n
  induction n using Nat.strongRecOn with
  | _ n ih =>
    intro a k r m h0 h1 hn hks hk
    obtain ⟨k, rfl⟩ : ∃ m, k = m + 2 := ⟨k - 2, by omega⟩
    have hm := ks_range hks h0
    rw [trammelref1_depth.f, if_pos h0, if_pos h1, refKids_some (k + 1) (by omega), Option.bind_some]
    generalize rd_T45 L a = x at *
    have hK : refKids x.f0 = -1 ∨ refKids x.f0 = (kidsN x.f0 : Int) := by unfold refKids; split <;> simp
    have hK0 : refKids x.f0 = -1 → kidsN x.f0 = 0 := fun h => by
      unfold refKids at h
      split at h
      · omega
      · rename_i hh; exact kids_out hh
    have h3 := kidsN_le x.f0
    unfold kidsOf at hks
    generalize refKids x.f0 = c at *
    generalize kidsN x.f0 = j at *
    have go : ∀ (ch q d : Int) (K : Nat), ch + 1 ≤ a → 0 ≤ ch → Ks L (kidsOf (rd_T45 L ch)).reverse ch q d → k ≤ K → trammelref1_depth.f K L ch = some (d + 1) := fun ch q d K e1 e2 e3 e4 => ih ch.toNat (by omega) ch K q d e2 (by omega) rfl e3 (by omega)
    match j, h3 with
    | 0, _ =>
      obtain ⟨_, rfl⟩ := ks_nil hks
      rw [if_neg (by omega), trammelref1_depth.j0, if_neg (by omega), if_neg (by omega)]
      exact congrArg some (wrapS (by decide) (by decide))
    | 1, _ =>
      obtain ⟨q1, d1, m1, e1, g1, _, k1, hA, hm1⟩ := ks_cons (show Ks L (x.f1 :: []) a r m from hks)
      obtain ⟨_, hm0⟩ := ks_nil hA
      subst hm0
      subst hm1
      have := ks_range k1 (by omega)
      rw [if_pos (by omega), go _ _ _ _ (by omega) (by omega) k1 (by omega), Option.bind_some, trammelref1_depth.j0, if_neg (by omega), if_neg (by omega)]
      congr 1
      rw [show wrap64 (mx 0 (d1 + 1) + 1) = mx 0 (d1 + 1) + 1 from wrapS (by unfold mx; split <;> omega) (by unfold mx; split <;> omega)]
      unfold mx
      split <;> split <;> omega
    | 2, _ =>
      obtain ⟨q2, d2, m2, e2, g2, _, k2, hB, hm2⟩ := ks_cons (show Ks L (x.f2 :: x.f1 :: []) a r m from hks)
      have r2 := ks_range k2 (by omega)
      obtain ⟨q1, d1, m1, e1, g1, _, k1, hA, hm1⟩ := ks_cons hB
      obtain ⟨_, hm0⟩ := ks_nil hA
      subst hm0
      subst hm1
      subst hm2
      have r1 := ks_range k1 (by omega)
      rw [if_pos (by omega), go _ _ _ _ (by omega) (by omega) k1 (by omega), Option.bind_some, trammelref1_depth.j0, if_pos (by omega), go _ _ _ _ (by omega) (by omega) k2 (by omega), Option.bind_some, if_neg (by omega)]
      congr 1
      rw [show wrap64 (mx (mx 0 (d1 + 1)) (d2 + 1) + 1) = mx (mx 0 (d1 + 1)) (d2 + 1) + 1 from wrapS (by unfold mx; repeat' split <;> omega) (by unfold mx; repeat' split <;> omega)]
      unfold mx
      repeat' split
      all_goals omega
    | 3, _ =>
      obtain ⟨q3, d3, m3, e3, g3, _, k3, hC, hm3⟩ := ks_cons (show Ks L (x.f3 :: x.f2 :: x.f1 :: []) a r m from hks)
      have r3 := ks_range k3 (by omega)
      obtain ⟨q2, d2, m2, e2, g2, _, k2, hB, hm2⟩ := ks_cons hC
      have r2 := ks_range k2 (by omega)
      obtain ⟨q1, d1, m1, e1, g1, _, k1, hA, hm1⟩ := ks_cons hB
      obtain ⟨_, hm0⟩ := ks_nil hA
      subst hm0
      subst hm1
      subst hm2
      subst hm3
      have r1 := ks_range k1 (by omega)
      rw [if_pos (by omega), go _ _ _ _ (by omega) (by omega) k1 (by omega), Option.bind_some, trammelref1_depth.j0, if_pos (by omega), go _ _ _ _ (by omega) (by omega) k2 (by omega), Option.bind_some, if_pos (by omega), go _ _ _ _ (by omega) (by omega) k3 (by omega), Option.bind_some]
      congr 1
      rw [show wrap64 (mx (mx (mx 0 (d1 + 1)) (d2 + 1)) (d3 + 1) + 1) = mx (mx (mx 0 (d1 + 1)) (d2 + 1)) (d3 + 1) + 1 from wrapS (by unfold mx; repeat' split <;> omega) (by unfold mx; repeat' split <;> omega)]
      unfold mx
      repeat' split
      all_goals omega
theorem refMoved_is (x : S45) (b : Int) (k : Nat) (hk : 8 ≤ k) (h0 : 0 ≤ b) (h1 : b ≤ 1000) : trammelref1_Moved.f k x.f0 x.f1 x.f2 x.f3 x.f4 x.f5 x.f6 x.f7 x.f8 x.f9 (wrap64 (-b)) = some ((movedKids b x).f0, (movedKids b x).f1, (movedKids b x).f2, (movedKids b x).f3, (movedKids b x).f4, (movedKids b x).f5, (movedKids b x).f6, (movedKids b x).f7, (movedKids b x).f8, (movedKids b x).f9) := by
  obtain ⟨k, rfl⟩ : ∃ m, k = m + 1 := ⟨k - 1, by omega⟩
  have hw : wrap64 (-b) = -b := by unfold wrap64; omega
  unfold trammelref1_Moved.f
  rw [refKids_some (k + 1) (by omega), Option.bind_some, hw]
  have hs : ∀ y : Int, y + -b = y - b := fun y => by omega
  have hK : (refKids x.f0 = -1 ∧ kidsN x.f0 = 0) ∨ refKids x.f0 = (kidsN x.f0 : Int) := by
    unfold refKids
    by_cases h : 0 ≤ x.f0 ∧ x.f0 ≤ 10
    · rw [if_pos h]; exact .inr rfl
    · rw [if_neg h]; exact .inl ⟨rfl, kids_out h⟩
  have h3 := kidsN_le x.f0
  unfold movedKids
  generalize refKids x.f0 = c at *
  generalize kidsN x.f0 = j at *
  simp only [trammelref1_Moved.j0, hs, moveN]
  match j, h3 with
  | 0, _ => rw [if_neg (by omega), if_neg (by omega), if_neg (by omega)]; rfl
  | 1, _ => rw [if_pos (by omega), if_neg (by omega), if_neg (by omega)]; rfl
  | 2, _ => rw [if_pos (by omega), if_pos (by omega), if_neg (by omega)]; rfl
  | 3, _ => rw [if_pos (by omega), if_pos (by omega), if_pos (by omega)]; rfl
theorem refCut_loop (L : List S45) (hl : L.length ≤ 512) (b a : Int) (h0 : 0 ≤ b) (ha : a < (L.length : Int)) : ∀ (d i k : Nat) (out : List S45), (a + 1 - i).toNat = d → (i : Int) ≤ a + 1 → b ≤ a → out.length + d ≤ 1000 → d + 12 ≤ k → trammelref1_Cut.l0 k L a b out (i : Int) = some (out ++ ((L.drop i).take d).map (movedKids b)) := by
  intro d
  induction d with
  | zero =>
    intro i k out hd hi hb ho hk
    obtain ⟨k, rfl⟩ : ∃ m, k = m + 1 := ⟨k - 1, by omega⟩
    rw [trammelref1_Cut.l0, if_neg (by omega)]
    simp
  | succ d ih =>
    intro i k out hd hi hb ho hk
    obtain ⟨k, rfl⟩ : ∃ m, k = m + 1 := ⟨k - 1, by omega⟩
    have hlt : i < L.length := by omega
    rw [trammelref1_Cut.l0, if_pos (by omega), if_pos (by omega), if_pos (by omega), rd_at L i hlt, refMoved_is L[i] b k (by omega) h0 (by omega), Option.bind_some]
    simp only
    rw [if_pos (by omega), show wrap64 ((i : Int) + 1) = ((i + 1 : Nat) : Int) from by rw [wrapS (by omega) (by omega)]; omega, ih (i + 1) k _ (by omega) (by omega) hb (by simp; omega) (by omega), List.drop_eq_getElem_cons hlt, List.take_succ_cons, List.map_cons]
    simp
end Go.Proofs.YtnogfhhfklkbiaaDoor.H

set_option linter.unusedVariables false
set_option linter.unusedSimpArgs false
set_option maxHeartbeats 1000000
namespace Go.Proofs.YtnogfhhfklkbiaaDoor.H
open Go.RowKit Go.Proofs.YtnogfhhfklkbiaaDoorW.PrintWords Go.Proofs.YtnogfhhfklkbiaaDoorW.PrintLast Go.Proofs.YtnogfhhfklkbiaaDoorW.PrintMore
theorem refShaped_loop (l : List S45) (named : Bool) (hl : l.length ≤ 512) (h1 : 1 ≤ l.length) : ∀ (d i k : Nat), l.length - i = d → i ≤ l.length → d + 6500 ≤ k →
    trammelref1_shaped.l0 k l named (i : Int) = some ((l.drop i).all (fun x => mayS x named) && (beginS l ((l.length : Int) - 1) == 0)) := by
  intro d
  induction d with
  | zero =>
    intro i k hd hi hk
    obtain ⟨k, rfl⟩ : ∃ m, k = m + 1 := ⟨k - 1, by omega⟩
    rw [trammelref1_shaped.l0, if_neg (by omega), show wrap64 ((l.length : Int) - 1) = (l.length : Int) - 1 from wrapS (by omega) (by omega), ref_begin l hl (l.length - 1) _ k (by omega) (by omega) (by omega) (by omega), List.drop_eq_nil_of_le (by omega)]
    simp
  | succ d ih =>
    intro i k hd hi hk
    obtain ⟨k, rfl⟩ : ∃ m, k = m + 1 := ⟨k - 1, by omega⟩
    have hlt : i < l.length := by omega
    rw [trammelref1_shaped.l0, if_pos (by omega), if_pos (by omega), rd_at l i hlt, refFields_is l[i] named k (by omega), refNums_is, List.drop_eq_getElem_cons hlt, List.all_cons, show wrap64 ((i : Int) + 1) = ((i + 1 : Nat) : Int) from by rw [wrapS (by omega) (by omega)]; omega, ih (i + 1) k (by omega) (by omega) (by omega), ← may_ref l[i] named]
    simp only [Option.bind_some]
    cases fieldsS l[i] named
    · simp
    · cases numsS l[i]
      · simp
      · simp
theorem refShaped_is (l : List S45) (named : Bool) (k : Nat) (hk : 7100 ≤ k) : trammelref1_shaped.f k l named = some (shapedS l named) := by
  obtain ⟨k, rfl⟩ : ∃ m, k = m + 1 := ⟨k - 1, by omega⟩
  unfold trammelref1_shaped.f shapedS
  by_cases h1 : (l.length : Int) < 1
  · rw [if_pos h1, trammelref1_shaped.j0, if_pos rfl]
    simp [show ¬ 1 ≤ l.length by omega]
  · rw [if_neg h1, trammelref1_shaped.j0]
    by_cases h2 : (l.length : Int) > 512
    · rw [if_pos (by simpa using h2)]
      simp [show ¬ l.length ≤ 512 by omega]
    · rw [if_neg (by simpa using h2)]
      have := refShaped_loop l named (by omega) (by omega) l.length 0 k rfl (Nat.zero_le _) (by omega)
      rw [show ((0 : Nat) : Int) = 0 from rfl] at this
      rw [this]
      simp [show 1 ≤ l.length by omega, show l.length ≤ 512 by omega]
theorem refMay_is (os : List S48) (l : List S45) (k : Nat) (hk : 7100 ≤ k) : trammelref1_TreeMay.f k os l = some (treeMayS os l) := by
  unfold trammelref1_TreeMay.f treeMayS
  rw [refOps_is os k (by omega), refShaped_is l true k hk]
  cases opsMayS os <;> simp
theorem refAny_is (l : List S45) (k : Nat) (hk : 7100 ≤ k) : trammelref1_anyShape.f k l = some (shapedS l true || shapedS l false) := by
  unfold trammelref1_anyShape.f
  rw [refShaped_is l true k hk, refShaped_is l false k hk]
  cases shapedS l true <;> simp
theorem shaped_ks {l : List S45} (h : (shapedS l true || shapedS l false) = true) : 1 ≤ l.length ∧ l.length ≤ 512 ∧ ∃ M, Ks l [(l.length : Int) - 1] l.length 0 M := by
  have h' : ∃ b, shapedS l b = true := by
    rw [Bool.or_eq_true] at h
    rcases h with h | h
    · exact ⟨_, h⟩
    · exact ⟨_, h⟩
  obtain ⟨b, hb⟩ := h'
  unfold shapedS at hb
  simp only [Bool.and_eq_true, decide_eq_true_eq, beq_iff_eq] at hb
  obtain ⟨l1, hl, _, hb⟩ := hb
  obtain ⟨m, hm⟩ := ks_of_begin l hl l.length _ _ _ (by omega) (by omega) (begin_goB l ((l.length : Int) - 1) (by omega) (by omega) hl) (by rw [hb]; omega)
  rw [hb] at hm
  exact ⟨l1, hl, _, .cons (l.length : Int) 0 0 m 0 [] (by omega) (by omega) hm (.nil 0)⟩
theorem refThere {l : List S45} {a : Int} : thereS l a = true ↔ (shapedS l true || shapedS l false) = true ∧ 0 ≤ a ∧ a < (l.length : Int) := by
  unfold thereS
  simp [Bool.and_eq_true]
theorem depths_is (l : List S45) (a : Int) (k : Nat) (hk : 7100 ≤ k) : ∃ d, tree_Depth.f k l a = some d ∧ trammelref1_Depth.f k l a = some d := by
  unfold tree_Depth.f trammelref1_Depth.f
  rw [there_is l a k (by omega), refAny_is l k hk, Option.bind_some, Option.bind_some]
  by_cases h : (shapedS l true || shapedS l false) = true
  · rw [if_pos h]
    obtain ⟨l1, hl, M, hM⟩ := shaped_ks h
    by_cases h0 : a < 0
    · rw [if_pos h0, if_neg (fun hh => by have := (refThere.1 hh).2; omega)]
      exact ⟨_, rfl, rfl⟩
    · rw [if_neg h0]
      by_cases h1 : a ≥ (l.length : Int)
      · rw [if_pos h1, if_neg (fun hh => by have := (refThere.1 hh).2; omega)]
        exact ⟨_, rfl, rfl⟩
      · rw [if_neg h1, if_pos (refThere.2 ⟨h, by omega, by omega⟩)]
        obtain ⟨_, s, e, he, hs0, _⟩ := ks_inner hM (by omega) a (by omega) (by omega)
        have hr := ks_range he (by omega)
        obtain ⟨k, rfl⟩ : ∃ m, k = m + 1 := ⟨k - 1, by omega⟩
        have := depth_of_ks hl he (by omega) (by omega) k (by omega)
        rw [List.reverse_reverse] at this
        refine ⟨(e + 1, 0), ?_, ?_⟩
        · rw [tree_depth.f, if_pos (by omega), if_pos (by omega), this, Option.bind_some, Option.bind_some, wrapS (by omega) (by omega)]
        · rw [ref_depth l hl a.toNat a (k + 1) s e (by omega) (by omega) rfl he (by omega), Option.bind_some]
  · rw [if_neg h, if_neg (fun hh => h (refThere.1 hh).1)]
    exact ⟨_, rfl, rfl⟩
theorem parts_is (l : List S45) (a : Int) (k : Nat) (hk : 7100 ≤ k) : ∃ d, tree_Part.f k l a = some d ∧ trammelref1_Part.f k l a = some d ∧ d.1.length ≤ 512 := by
  unfold tree_Part.f trammelref1_Part.f
  rw [there_is l a k (by omega), refAny_is l k hk, Option.bind_some, Option.bind_some]
  by_cases h : (shapedS l true || shapedS l false) = true
  · rw [if_pos h]
    obtain ⟨l1, hl, M, hM⟩ := shaped_ks h
    by_cases h0 : a < 0
    · rw [if_pos h0, if_neg (fun hh => by have := (refThere.1 hh).2; omega)]
      exact ⟨_, rfl, rfl, by simp⟩
    · rw [if_neg h0]
      by_cases h1 : a ≥ (l.length : Int)
      · rw [if_pos h1, if_neg (fun hh => by have := (refThere.1 hh).2; omega)]
        exact ⟨_, rfl, rfl, by simp⟩
      · rw [if_neg h1, if_pos (refThere.2 ⟨h, by omega, by omega⟩)]
        obtain ⟨_, s, e, he, hs0, _⟩ := ks_inner hM (by omega) a (by omega) (by omega)
        have hr := ks_range he (by omega)
        have hb : tree_Begin.f k l a = some s := by
          obtain ⟨k, rfl⟩ : ∃ m, k = m + 1 := ⟨k - 1, by omega⟩
          rw [tree_Begin.f, if_pos (by omega), if_pos (by omega)]
          exact begin_of_ks hl he (by omega) (by omega) k (by omega)
        have hbS : beginS l a = s := by
          have := begin_is l a k (by omega) (by omega) (by omega) (by omega)
          rw [hb] at this
          exact (Option.some.inj this).symm
        refine ⟨(partL l s a, 0), ?_, ?_, ?_⟩
        · rw [hb, Option.bind_some, if_pos (by omega)]
          rfl
        · unfold trammelref1_Cut.f
          rw [ref_begin l hl a.toNat a k (by omega) (by omega) rfl (by omega), Option.bind_some, hbS]
          obtain ⟨n, rfl⟩ := Int.eq_ofNat_of_zero_le (show 0 ≤ s by omega)
          rw [refCut_loop l hl (n : Int) a (by omega) (by omega) (a + 1 - (n : Int)).toNat n k [] rfl (by omega) (by omega) (by simp; omega) (by omega), Option.bind_some]
          rfl
        · have := partL_len l hs0 (show s ≤ a by omega) (by omega)
          show (partL l s a).length ≤ 512
          omega
  · rw [if_neg h, if_neg (fun hh => h (refThere.1 hh).1)]
    exact ⟨_, rfl, rfl, by simp⟩
theorem sames_is (l m : List S45) : trammelref1_SameTree.f l m = tree_Same.f l m := rfl
theorem spoil_some : ∀ (d : Nat) (x : List S45) (i k : Nat), x.length - i = d → x.length ≤ 1000000 → d < k → ∃ y, trammellaw0_SpoilNodes.l0 k x (i : Int) = some y := by
  intro d
  induction d with
  | zero =>
    intro x i k hd hl hk
    obtain ⟨k, rfl⟩ : ∃ m, k = m + 1 := ⟨k - 1, by omega⟩
    rw [trammellaw0_SpoilNodes.l0, if_neg (by omega)]
    exact ⟨_, rfl⟩
  | succ d ih =>
    intro x i k hd hl hk
    obtain ⟨k, rfl⟩ : ∃ m, k = m + 1 := ⟨k - 1, by omega⟩
    rw [trammellaw0_SpoilNodes.l0, if_pos (by omega), if_pos (by omega), show wrap64 ((i : Int) + 1) = ((i + 1 : Nat) : Int) from by rw [wrapS (by omega) (by omega)]; omega]
    exact ih _ (i + 1) k (by simp; omega) (by simp; omega) (by omega)
end Go.Proofs.YtnogfhhfklkbiaaDoor.H

set_option linter.unusedVariables false
set_option maxHeartbeats 1000000
namespace Go.Proofs.YtnogfhhfklkbiaaDoor.H
open Go.RowKit Go.Proofs.YtnogfhhfklkbiaaDoorW.PrintWords Go.Proofs.YtnogfhhfklkbiaaDoorW.PrintLast Go.Proofs.YtnogfhhfklkbiaaDoorW.PrintMore
theorem trees_end {K : Nat} {p : List S45} {os : List S48} {ns y : List S45} (hy : trammellaw0_SpoilNodes.f K p = some y) (hk : trammellaw0_KeptProgram.fP K os ns os ns = some true) (hw : trammellaw3_awake.f K = some true) : trammellaw3_Trees.j0 (K + 1) p false os ns os ns = some true := by
  show (if false = true then some false else (trammellaw0_SpoilNodes.f K p).bind fun _ => (trammellaw0_KeptProgram.fP K os ns os ns).bind fun t => if t = true then (trammellaw3_awake.f K).bind fun u => some u else some false) = some true
  rw [hy, hk, hw]
  rfl
theorem trees_all {k : Nat} {os os1 : List S48} {ns ns1 : List S45} {a : Int} {d : Int × Int} {p : List S45 × Int} {b m : Bool} (hl : trammellaw0_LendProgram.f os ns = some (os, ns)) (hd0 : tree_Depth.f k ns a = some d) (hd1 : trammelref1_Depth.f k ns a = some d) (hp0 : tree_Part.f k ns a = some p) (hp1 : trammelref1_Part.f k ns a = some p)
    (hs : trammellaw0_SameNodes.f k p.1 p.1 = some true) (hm0 : tree_May.f k os ns = some m) (hm1 : trammelref1_TreeMay.f k os ns = some m) (hb0 : tree_Same.f ns ns1 = some b) (hb1 : trammelref1_SameTree.f ns ns1 = some b) (hj : trammellaw3_Trees.j0 k p.1 false os ns os ns = some true) : trammellaw3_Trees.f k os ns os1 ns1 a = some true := by
  obtain ⟨d0, d1⟩ := d
  obtain ⟨p0, p1⟩ := p
  unfold trammellaw3_Trees.f
  rw [hl, Option.bind_some]
  dsimp only
  rw [hd0, Option.bind_some, hd1, Option.bind_some, hp0, Option.bind_some, hp1, Option.bind_some, if_pos rfl]
  dsimp only [trammellaw0_Num.f]
  rw [Option.bind_some, if_pos rfl, hs, Option.bind_some, if_pos rfl, Option.bind_some, if_pos rfl, hm0, Option.bind_some, hm1, Option.bind_some, if_neg (by simp), hb0, Option.bind_some, hb1, Option.bind_some]
  rw [bne_self_eq_false]
  exact hj
theorem Trees_pure (os : List S48) (ns : List S45) (os1 : List S48) (ns1 : List S45) (a : Int) (z0 : os.length * 32 ≤ 140737488351232) (z1 : ns.length * 112 ≤ 140737488351232) (z2 : os1.length * 32 ≤ 140737488351232) (z3 : ns1.length * 112 ≤ 140737488351232) : ∃ k, trammellaw3_Trees.f k os ns os1 ns1 a = some true := by
  obtain ⟨K, hK⟩ : ∃ K, 9000 + os.length + ns.length ≤ K := ⟨_, Nat.le_refl _⟩
  refine ⟨K + 1, ?_⟩
  obtain ⟨d, hd0, hd1⟩ := depths_is ns a (K + 1) (by omega)
  obtain ⟨p, hp0, hp1, hp2⟩ := parts_is ns a (K + 1) (by omega)
  obtain ⟨b, hb⟩ : ∃ b, tree_Same.f ns ns1 = some b := ⟨_, same_is ns ns1 (by omega)⟩
  obtain ⟨y, hy⟩ := spoil_some p.1.length p.1 0 K (by omega) (by omega) (by omega)
  have hw : trammellaw3_awake.f K = some true := at_rounds trammellaw3_awake.mono (by omega : 1300 ≤ K) trammellaw3_awake.is
  exact trees_all (lendProgram_some os ns (by omega) (by omega)) hd0 hd1 hp0 hp1 (sameN_self p.1 (K + 1) (by omega) (by omega)) (treeMay_is os ns (K + 1) (by omega)) (refMay_is os ns (K + 1) (by omega)) hb ((sames_is ns ns1).trans hb)
    (trees_end hy (keptProgram_is os ns K (by omega) (by omega) (by omega) (by omega)) hw)
end Go.Proofs.YtnogfhhfklkbiaaDoor.H
