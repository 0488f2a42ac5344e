/- Several texts in one: contracts of functions of the program, and what they lean on. In part written by a program of this session over the kit's print, in part by hand. -/
import Derived.Test.YtnogfhhfklkbiaaDoorYTrees2
import Derived.Test.YtnogfhhfklkbiaaDoorYTrees8
import Derived.Test.YtnogfhhfklkbiaaDoorYTrees3
import Derived.Lib.SliceRun
namespace Go.Proofs.YtnogfhhfklkbiaaDoor.H
open Go.RowKit Go.Proofs.YtnogfhhfklkbiaaDoorW.PrintWords Go.Proofs.YtnogfhhfklkbiaaDoorW.PrintLast Go.Proofs.YtnogfhhfklkbiaaDoorW.PrintMore
attribute [local go_sem] max2_int min2_int max_two min_two max_three min_three max_four min_four
set_option linter.unusedVariables false
set_option linter.unusedSimpArgs false
attribute [local go_sem high] eqA45
def namesOf (x : S45) : List ByteArray := if x.f0 = 0 ∨ x.f0 = 9 then [x.f5] else if x.f0 = 3 ∨ x.f0 = 5 then [x.f6] else if x.f0 = 6 then [x.f6, x.f7] else if x.f0 = 10 then [x.f5, x.f6, x.f7, x.f8] else []
def noNames (x : S45) : S45 := if x.f0 = 0 ∨ x.f0 = 9 then { x with f5 := ⟨#[]⟩ } else if x.f0 = 3 ∨ x.f0 = 5 then { x with f6 := ⟨#[]⟩ } else if x.f0 = 6 then { x with f6 := ⟨#[]⟩, f7 := ⟨#[]⟩ } else if x.f0 = 10 then { x with f5 := ⟨#[]⟩, f6 := ⟨#[]⟩, f7 := ⟨#[]⟩, f8 := ⟨#[]⟩ } else x
def noKids (x : S45) : S45 := match kidsN x.f0 with
  | 0 => x
  | 1 => { x with f1 := 0 }
  | 2 => { x with f1 := 0, f2 := 0 }
  | _ => { x with f1 := 0, f2 := 0, f3 := 0 }
def noNum (x : S45) : S45 := { x with f4 := 0 }
def bareNode (x : S45) : Bool := x.f1 == 0 && (x.f2 == 0 && (x.f3 == 0 && (x.f4 == 0 && (x.f5.toList.isEmpty && (x.f6.toList.isEmpty && (x.f7.toList.isEmpty && x.f8.toList.isEmpty))))))
def goN (k : Nat) : List ByteArray → Option Bool
  | [] => some true
  | s :: ss => (lex_NameMay.f k s).bind fun b => if b = true then goN k ss else some false
def tree_may.f (k : Nat) (a0_0 a0_1 a0_2 a0_3 a0_4 : Int) (a0_5 a0_6 a0_7 a0_8 : ByteArray) (a0_9 : Int) (a1 : Bool) : Option Bool :=
  if a0_0 < 0 then some false else if a0_0 > 10 then some false else if a0_9 < 0 then some false else if a0_9 > 4096 then some false else
  (tree_most.f a0_0).bind fun n => if 0 ≤ n ∧ (a0_4 < 0 ∨ n < a0_4) then some false else
    (if a1 = true then goN k (namesOf ⟨a0_0, a0_1, a0_2, a0_3, a0_4, a0_5, a0_6, a0_7, a0_8, a0_9⟩) else some true).bind fun ok => if ok = true then
      (let y := noKids (if a1 = true then noNames ⟨a0_0, a0_1, a0_2, a0_3, a0_4, a0_5, a0_6, a0_7, a0_8, a0_9⟩ else ⟨a0_0, a0_1, a0_2, a0_3, a0_4, a0_5, a0_6, a0_7, a0_8, a0_9⟩)
       some (bareNode (if 0 ≤ n ∨ (a1 = false ∧ (a0_0 = 0 ∨ a0_0 = 9 ∨ a0_0 = 10)) then noNum y else y))) else some false
theorem goN_mono (k : Nat) : ∀ ss, LeO (goN k ss) (goN (k + 1) ss)
  | [] => LeO.refl _
  | s :: ss => by
    unfold goN
    exact LeO.bind (lex_NameMay.mono s k) fun b => LeO.ite (goN_mono k ss) (LeO.refl _)
theorem tree_may.mono : ∀ a0 a1 a2 a3 a4 a5 a6 a7 a8 a9 a10 k, LeO (tree_may.f k a0 a1 a2 a3 a4 a5 a6 a7 a8 a9 a10) (tree_may.f (k + 1) a0 a1 a2 a3 a4 a5 a6 a7 a8 a9 a10) := by
  intro a0 a1 a2 a3 a4 a5 a6 a7 a8 a9 a10 k
  unfold tree_may.f
  refine LeO.ite (LeO.refl _) (LeO.ite (LeO.refl _) (LeO.ite (LeO.refl _) (LeO.ite (LeO.refl _) (LeO.bind (LeO.refl _) fun n => LeO.ite (LeO.refl _) (LeO.bind (LeO.ite (goN_mono k _) (LeO.refl _)) fun ok => LeO.refl _)))))
def cellsOf (x : S45) : Array Value := #[.int .i64 x.f0, .int .i64 x.f1, .int .i64 x.f2, .int .i64 x.f3, .int .i64 x.f4, .string x.f5, .string x.f6, .string x.f7, .string x.f8, .int .i64 x.f9]
def clr (v : Value) (cs : Array Value) (l : List Nat) : Array Value := l.foldl (fun c p => c.setIfInBounds p v) cs
theorem clr_snoc (v : Value) (cs : Array Value) (l : List Nat) (i p : Nat) (h : l[i]? = some p) : (clr v cs (l.take i)).setIfInBounds p v = clr v cs (l.take (i + 1)) := by
  obtain ⟨hi, rfl⟩ := List.getElem?_eq_some_iff.1 h
  unfold clr
  rw [List.take_succ_eq_append_getElem hi, List.foldl_append]
  rfl
theorem clr_names (x : S45) : clr (.string ⟨#[]⟩) (cellsOf x) (nameOffs x.f0) = cellsOf (noNames x) := by
  unfold nameOffs noNames
  repeat' split
  all_goals rfl
theorem noNames_kind (x : S45) : (noNames x).f0 = x.f0 := by
  unfold noNames
  repeat' split
  all_goals rfl
theorem clr_kids (x : S45) : clr (.int .i64 0) (cellsOf x) ((List.range (kidsN x.f0)).map (0 + 1 + ·)) = cellsOf (noKids x) := by
  have h := kidsN_le x.f0
  unfold noKids
  match hk : kidsN x.f0, h with
  | 0, _ => rfl
  | 1, _ => rfl
  | 2, _ => rfl
  | 3, _ => rfl
theorem noKids_kind (x : S45) : (noKids x).f0 = x.f0 := by
  unfold noKids
  split <;> rfl
theorem names_len (x : S45) : (namesOf x).length = (nameOffs x.f0).length := by
  unfold namesOf nameOffs
  repeat' split
  all_goals rfl
theorem names_at (x : S45) (i p : Nat) (hp : (nameOffs x.f0)[i]? = some p) : ∃ s, (namesOf x)[i]? = some s ∧ (clr (.string ⟨#[]⟩) (cellsOf x) ((nameOffs x.f0).take i))[p]? = some (.string s) := by
  unfold nameOffs namesOf at *
  by_cases c1 : x.f0 = 0 ∨ x.f0 = 9
  · rw [if_pos c1] at hp ⊢
    rw [if_pos c1]
    match i, hp with
    | 0, hp => simp at hp; subst hp; exact ⟨_, rfl, rfl⟩
    | i + 1, hp => simp at hp
  · rw [if_neg c1] at hp ⊢
    rw [if_neg c1]
    by_cases c2 : x.f0 = 3 ∨ x.f0 = 5
    · rw [if_pos c2] at hp ⊢
      rw [if_pos c2]
      match i, hp with
      | 0, hp => simp at hp; subst hp; exact ⟨_, rfl, rfl⟩
      | i + 1, hp => simp at hp
    · rw [if_neg c2] at hp ⊢
      rw [if_neg c2]
      by_cases c3 : x.f0 = 6
      · rw [if_pos c3] at hp ⊢
        rw [if_pos c3]
        match i, hp with
        | 0, hp => simp at hp; subst hp; exact ⟨_, rfl, rfl⟩
        | 1, hp => simp at hp; subst hp; exact ⟨_, rfl, rfl⟩
        | i + 2, hp => simp at hp
      · rw [if_neg c3] at hp ⊢
        rw [if_neg c3]
        by_cases c4 : x.f0 = 10
        · rw [if_pos c4] at hp ⊢
          rw [if_pos c4]
          match i, hp with
          | 0, hp => simp at hp; subst hp; exact ⟨_, rfl, rfl⟩
          | 1, hp => simp at hp; subst hp; exact ⟨_, rfl, rfl⟩
          | 2, hp => simp at hp; subst hp; exact ⟨_, rfl, rfl⟩
          | 3, hp => simp at hp; subst hp; exact ⟨_, rfl, rfl⟩
          | i + 4, hp => simp at hp
        · rw [if_neg c4] at hp
          simp at hp
theorem nameOffs_lt (kind : Int) (i p : Nat) (h : (nameOffs kind)[i]? = some p) : 1 ≤ p ∧ p < 10 := by
  have hm := List.mem_of_getElem? h
  unfold nameOffs at hm
  repeat' split at hm
  all_goals simp at hm
  all_goals omega
theorem clr_size (v : Value) (cs : Array Value) (l : List Nat) : (clr v cs l).size = cs.size := by
  unfold clr
  induction l generalizing cs with
  | nil => rfl
  | cons p l ih => rw [List.foldl_cons, ih]; simp
theorem kidPtrs_get (b i n : Nat) (h : i < n) : ((List.range n).map (0 + 1 + ·))[i]? = some (0 + 1 + i) := by simp [h]
def MayTail (y : S45) (num : Bool) : Bool := bareNode (if num = true then noNum (noKids y) else noKids y)
set_option maxRecDepth 100000 in
set_option maxHeartbeats 8000000 in
theorem tree_may.calls (k : Nat) (a0_0 a0_1 a0_2 a0_3 a0_4 : Int) (a0_5 a0_6 a0_7 a0_8 : ByteArray) (a0_9 : Int) (a1 : Bool) (r : Bool) (w : World) (h : tree_may.f k a0_0 a0_1 a0_2 a0_3 a0_4 a0_5 a0_6 a0_7 a0_8 a0_9 a1 = some r) :
    Calls Tryd.prog 71 #[.agg #[.int .i64 a0_0, .int .i64 a0_1, .int .i64 a0_2, .int .i64 a0_3, .int .i64 a0_4, .string a0_5, .string a0_6, .string a0_7, .string a0_8, .int .i64 a0_9], .bool a1] w fun e w' => e = .returned (.bool r) ∧ Below w.heap.size w w' := by
  unfold tree_may.f at h
  by_cases c1 : a0_0 < 0
  · rw [if_pos c1] at h
    obtain rfl := Option.some.inj h
    have b1 : decide (a0_0 < 0) = true := decide_eq_true c1
    clear h c1
    go_enter Tryd.func71, Tryd.ntmps71
    go_wp2
    go_ret
    exact ⟨rfl, (Below.refl _ _).alloc (Nat.le_refl _) _⟩
  · rw [if_neg c1] at h
    have b1 : decide (a0_0 < 0) = false := decide_eq_false c1
    by_cases c2 : a0_0 > 10
    · rw [if_pos c2] at h
      obtain rfl := Option.some.inj h
      have b2 : decide (10 < a0_0) = true := decide_eq_true c2
      clear h c1 c2
      go_enter Tryd.func71, Tryd.ntmps71
      go_wp2
      go_ret
      exact ⟨rfl, (Below.refl _ _).alloc (Nat.le_refl _) _⟩
    · rw [if_neg c2] at h
      have b2 : decide (10 < a0_0) = false := decide_eq_false c2
      by_cases c3 : a0_9 < 0
      · rw [if_pos c3] at h
        obtain rfl := Option.some.inj h
        have b3 : decide (a0_9 < 0) = true := decide_eq_true c3
        clear h c1 c2 c3
        go_enter Tryd.func71, Tryd.ntmps71
        go_wp2
        go_ret
        exact ⟨rfl, (Below.refl _ _).alloc (Nat.le_refl _) _⟩
      · rw [if_neg c3] at h
        have b3 : decide (a0_9 < 0) = false := decide_eq_false c3
        by_cases c4 : a0_9 > 4096
        · rw [if_pos c4] at h
          obtain rfl := Option.some.inj h
          have b4 : decide (4096 < a0_9) = true := decide_eq_true c4
          clear h c1 c2 c3 c4
          go_enter Tryd.func71, Tryd.ntmps71
          go_wp2
          go_ret
          exact ⟨rfl, (Below.refl _ _).alloc (Nat.le_refl _) _⟩
        · rw [if_neg c4] at h
          have b4 : decide (4096 < a0_9) = false := decide_eq_false c4
          clear c1 c2 c3 c4
          replace h := Option.bind_eq_some_iff.mp h
          obtain ⟨n, hn, h⟩ := h
          have HM := Aside0.mk hn
          clear hn
          by_cases c5 : 0 ≤ n ∧ (a0_4 < 0 ∨ n < a0_4)
          · rw [if_pos c5] at h
            obtain rfl := Option.some.inj h
            have b5 : decide (0 ≤ n) = true := decide_eq_true c5.1
            have c5' := c5.2
            clear h c5
            by_cases c6 : a0_4 < 0
            · have b6 : decide (a0_4 < 0) = true := decide_eq_true c6
              clear c6 c5'
              go_enter Tryd.func71, Tryd.ntmps71
              go_wp2_with (go_at_call 92; (with_reducible refine (tree_most.calls a0_0 n _ HM.out).mono ?_); rintro e w' ⟨rfl, ⟨nd, rfl⟩⟩)
              go_ret
              exact ⟨rfl, pw_below_drewN ((Below.refl _ _).alloc (Nat.le_refl _) _) _⟩
            · have b6 : decide (a0_4 < 0) = false := decide_eq_false c6
              have b7 : decide (n < a0_4) = true := decide_eq_true (by omega)
              clear c6 c5'
              go_enter Tryd.func71, Tryd.ntmps71
              go_wp2_with (go_at_call 92; (with_reducible refine (tree_most.calls a0_0 n _ HM.out).mono ?_); rintro e w' ⟨rfl, ⟨nd, rfl⟩⟩)
              go_ret
              exact ⟨rfl, pw_below_drewN ((Below.refl _ _).alloc (Nat.le_refl _) _) _⟩
          · rw [if_neg c5] at h
            have hx : cellsOf ⟨a0_0, a0_1, a0_2, a0_3, a0_4, a0_5, a0_6, a0_7, a0_8, a0_9⟩ = #[.int .i64 a0_0, .int .i64 a0_1, .int .i64 a0_2, .int .i64 a0_3, .int .i64 a0_4, .string a0_5, .string a0_6, .string a0_7, .string a0_8, .int .i64 a0_9] := rfl
            have hx0 : (⟨a0_0, a0_1, a0_2, a0_3, a0_4, a0_5, a0_6, a0_7, a0_8, a0_9⟩ : S45).f0 = a0_0 := rfl
            generalize (⟨a0_0, a0_1, a0_2, a0_3, a0_4, a0_5, a0_6, a0_7, a0_8, a0_9⟩ : S45) = x at *
            have HX := Aside0.mk hx
            have HX0 := Aside0.mk hx0
            have C5 := Aside0.mk c5
            have H := Aside0.mk h
            clear h c5 hx hx0
            by_cases c6 : 0 ≤ n
            case' pos =>
              have b5 : decide (0 ≤ n) = true := decide_eq_true c6
              have b6 : decide (a0_4 < 0) = false := decide_eq_false (fun h => C5.out ⟨c6, .inl h⟩)
              have b7 : decide (n < a0_4) = false := decide_eq_false (fun h => C5.out ⟨c6, .inr h⟩)
            case' neg =>
              have b5 : decide (0 ≤ n) = false := decide_eq_false c6
            all_goals
              have C6 := Aside0.mk c6
              clear c6
              cases a1
              case' false =>
                have HO := Aside0.mk (show some (MayTail x (decide (0 ≤ n) || (decide (a0_0 = 0 ∨ a0_0 = 9 ∨ a0_0 = 10)))) = some r by
                  have h := H.out
                  simp only [Bool.false_eq_true, if_false, Option.bind_some, if_true] at h
                  rw [← h, MayTail]
                  by_cases q1 : 0 ≤ n <;> by_cases q2 : (a0_0 = 0 ∨ a0_0 = 9 ∨ a0_0 = 10) <;> simp [q1, q2])
                have HQ := Aside0.mk (show tree_Numbered.f a0_0 = some (decide (a0_0 = 0 ∨ a0_0 = 9 ∨ a0_0 = 10)) by
                  unfold tree_Numbered.f
                  by_cases q0 : a0_0 = 0
                  · simp [q0]
                  · by_cases q9 : a0_0 = 9
                    · simp [q9]
                    · by_cases q10 : a0_0 = 10 <;> simp [q0, q9, q10])
                generalize decide (a0_0 = 0 ∨ a0_0 = 9 ∨ a0_0 = 10) = qb at *
                clear H
                go_enter Tryd.func71, Tryd.ntmps71
                go_wp2_with (go_at_call 92; (with_reducible refine (tree_most.calls a0_0 n _ HM.out).mono ?_); rintro e w' ⟨rfl, ⟨nd, rfl⟩⟩)
                have HY := Aside0.mk (show ((w.alloc (.cells #[.int .i64 a0_0, .int .i64 a0_1, .int .i64 a0_2, .int .i64 a0_3, .int .i64 a0_4, .string a0_5, .string a0_6, .string a0_7, .string a0_8, .int .i64 a0_9] 45)).drewN nd).heap[w.heap.size]? = some (.cells (cellsOf x) 45 (0, 0)) by rw [HX.out]; exact heap_alloc_new w _)
                have HBW := Aside0.mk (show Below w.heap.size w ((w.alloc (.cells #[.int .i64 a0_0, .int .i64 a0_1, .int .i64 a0_2, .int .i64 a0_3, .int .i64 a0_4, .string a0_5, .string a0_6, .string a0_7, .string a0_8, .int .i64 a0_9] 45)).drewN nd) from pw_below_drewN ((Below.refl _ _).alloc (Nat.le_refl _) _) _)
                generalize ((w.alloc (.cells #[.int .i64 a0_0, .int .i64 a0_1, .int .i64 a0_2, .int .i64 a0_3, .int .i64 a0_4, .string a0_5, .string a0_6, .string a0_7, .string a0_8, .int .i64 a0_9] 45)).drewN nd) = wr at *
                have HY0 := HX0
                clear HX
                generalize x = y at *
              case' true =>
                have h := H.out
                simp only [if_true] at h
                replace h := Option.bind_eq_some_iff.mp h
                obtain ⟨ok, hok, h⟩ := h
                have HOK := Aside0.mk hok
                have H2 := Aside0.mk h
                clear H h hok
                go_enter Tryd.func71, Tryd.ntmps71
                go_wp2_with (first | (go_at_call 92; (with_reducible refine (tree_most.calls a0_0 n _ HM.out).mono ?_); rintro e w' ⟨rfl, ⟨nd, rfl⟩⟩))
                refine (names_calls w.heap.size a0_0 _ (by simp)).mono ?_
                rintro e w1 ⟨rfl, hb1, hp1⟩
                have hz : ((w.alloc (.cells #[.int .i64 a0_0, .int .i64 a0_1, .int .i64 a0_2, .int .i64 a0_3, .int .i64 a0_4, .string a0_5, .string a0_6, .string a0_7, .string a0_8, .int .i64 a0_9] 45)).drewN nd).heap.size = w.heap.size + 1 := by simp
                have HB1 := Aside0.mk (show Below w.heap.size w w1 from (pw_below_drewN ((Below.refl _ _).alloc (Nat.le_refl _) _) nd).trans (hb1.mono (by omega)))
                have HN1 := Aside0.mk (show w1.heap[w.heap.size]? = some (.cells (cellsOf x) 45 (0, 0)) by rw [hb1.block w.heap.size (by omega), HX.out]; exact heap_alloc_new w _)
                rw [hz] at hp1 ⊢
                have hs1 : w.heap.size + 1 ≤ w1.heap.size := by have := hb1.size; omega
                have HP1 := Aside0.mk hp1
                clear hb1 hz hp1
                generalize hm : (nameOffs a0_0).length = m at *
                have HMM := Aside0.mk hm
                have hm4 : m ≤ 4 := by
                  rw [← hm]
                  unfold nameOffs
                  repeat' split
                  all_goals decide
                clear hm
                go_wp2_with fail
                go_loopw [47] (fun v47 wr => ∃ (i : Nat), v47 = .int .i64 i ∧ i ≤ m ∧ Aside0 (goN k ((namesOf x).drop i) = some ok) ∧ Aside0 (wr.heap[w.heap.size]? = some (.cells (clr (.string ⟨#[]⟩) (cellsOf x) ((nameOffs a0_0).take i)) 45 (0, 0))) ∧ Aside0 (0 < m → wr.heap[w.heap.size + 1]? = some (.cells (namePtrs w.heap.size (nameOffs a0_0)).toArray 120 (0, 0))) ∧ Aside0 (Below w.heap.size w wr)) (fun v47 _ => m - (intOf v47).toNat)
                case atStart => exact ⟨0, rfl, Nat.zero_le _, HOK, HN1, HP1, HB1⟩
                case' round =>
                  obtain ⟨i, rfl, hi, HG, HC, HP, HBR⟩ := hrel
                  clear HOK HN1 HP1 HB1
                  by_cases hlt : i < m
                  case' pos =>
                    have hpA : ptrOf (w.heap.size + 1) m = some ⟨w.heap.size + 1, 0, none⟩ := ptrOf_some (by omega)
                    rw [hpA]
                    obtain ⟨p, hp⟩ : ∃ p, (nameOffs a0_0)[i]? = some p := ⟨_, List.getElem?_eq_getElem (by rw [HMM.out]; exact hlt)⟩
                    have hpb := nameOffs_lt a0_0 i p hp
                    obtain ⟨s, hs, hcell⟩ := names_at x i p (by rw [HX0.out]; exact hp)
                    rw [HX0.out] at hcell
                    have c1 : wr.cell? ⟨w.heap.size, p, none⟩ = some (.string s) := by rw [blk_cell HC.out p]; exact hcell
                    have f1 : wr.frozen? ⟨w.heap.size, p, none⟩ = false := blk_frozen HC.out p
                    have c2 : wr.cell? ⟨w.heap.size + 1, i, none⟩ = some (.pointer (some ⟨w.heap.size, p, none⟩)) := by
                      rw [blk_cell (HP.out (by omega)) i, List.getElem?_toArray]
                      simp [namePtrs, hp]
                    have hg := HG.out
                    rw [← hr_drop hs, goN] at hg
                    replace hg := Option.bind_eq_some_iff.mp hg
                    obtain ⟨b, hb, hg⟩ := hg
                    have HNM := Aside0.mk hb
                    have HG2 := Aside0.mk hg
                    have HPI := Aside0.mk hp
                    have hwl : w.heap.size < wr.heap.size := blk_lt HC.out
                    have hwl2 : w.heap.size + 1 < wr.heap.size := blk_lt (HP.out (by omega))
                    clear hs hcell hp hg hb HG
                    cases b
                    case false =>
                      have hg := HG2.out
                      simp only [Bool.false_eq_true, if_false] at hg
                      obtain rfl := Option.some.inj hg
                      have h2 := H2.out
                      simp only [Bool.false_eq_true, if_false] at h2
                      obtain rfl := Option.some.inj h2
                      clear hg h2 H2 HG2
                      go_wp2_with (go_at_call 68; (with_reducible refine (lex_NameMay.calls k s false _ HNM.out).mono ?_); rintro e w3 ⟨rfl, hb3⟩; have HB3 := Aside0.mk hb3; clear hb3)
                      go_ret
                      exact ⟨rfl, HBR.out.trans (HB3.out.mono (by omega))⟩
                    case true =>
                      have hg := HG2.out
                      simp only [if_true] at hg
                      have HG3 := Aside0.mk hg
                      clear hg HG2
                      go_wp2_with (go_at_call 68; (with_reducible refine (lex_NameMay.calls k s true _ HNM.out).mono ?_); rintro e w3 ⟨rfl, hb3⟩; have HB3 := Aside0.mk hb3; have c3 : w3.cell? ⟨w.heap.size, p, none⟩ = some (.string s) := (hb3.cell (p := ⟨w.heap.size, p, none⟩) hwl).trans c1; have f3 : w3.frozen? ⟨w.heap.size, p, none⟩ = false := (hb3.frozen (p := ⟨w.heap.size, p, none⟩) hwl).trans f1; clear hb3)
                      go_roundw
                      case rel =>
                        refine ⟨i + 1, by go_num, by omega, HG3, ⟨?_⟩, ⟨fun _ => ?_⟩, ⟨?_⟩⟩
                        · rw [blk_set ((HB3.out.block w.heap.size hwl).trans HC.out) p, clr_snoc _ _ _ _ _ HPI.out]
                        · exact blk_far ((HB3.out.block (w.heap.size + 1) hwl2).trans (HP.out (by omega))) (by show w.heap.size + 1 ≠ w.heap.size; omega) _
                        · exact (HBR.out.trans (HB3.out.mono (by omega))).setCell (Nat.le_refl _) _
                      case measure => simp [intOf]; omega
                  case' neg =>
                    have hin : i = m := by omega
                    subst hin
                    have hg := HG.out
                    rw [List.drop_eq_nil_of_le (by rw [names_len, HX0.out, HMM.out]; exact Nat.le_refl _), goN] at hg
                    obtain rfl := Option.some.inj hg
                    have hc := HC.out
                    rw [List.take_of_length_le (by rw [HMM.out]; exact Nat.le_refl _)] at hc
                    have hcn := clr_names x
                    rw [HX0.out] at hcn
                    rw [hcn] at hc
                    have HY := Aside0.mk hc
                    have HBW := HBR
                    have HY0 := Aside0.mk ((noNames_kind x).trans HX0.out)
                    have HO := Aside0.mk (show some (MayTail (noNames x) (decide (0 ≤ n))) = some r by
                      have h2 := H2.out
                      simp only [if_true] at h2
                      rw [← h2, MayTail]
                      by_cases q1 : 0 ≤ n <;> simp [q1])
                    clear hg hc hcn HG HC HP H2 HX HBR
                    generalize noNames x = y at *
                    go_wp2_with fail
            all_goals
              have hwl : w.heap.size < wr.heap.size := blk_lt HY.out
              refine (kids_calls w.heap.size 0 a0_0 wr (by rw [blk_cell HY.out 0, ← HY0.out]; rfl)).mono ?_
              rintro e w5 ⟨rfl, hb5, hp5⟩
              have HB5 := Aside0.mk (show Below w.heap.size w w5 from HBW.out.trans (hb5.mono (by omega)))
              have HY5 := Aside0.mk ((hb5.block w.heap.size hwl).trans HY.out)
              have HP5 := Aside0.mk hp5
              have hs5 : wr.heap.size ≤ w5.heap.size := hb5.size
              clear hb5 hp5 HBW HY
              generalize hg1 : wr.heap.size = g1 at *
              generalize hn3 : kidsN a0_0 = n3 at *
              have HN3 := Aside0.mk hn3
              have hn33 : n3 ≤ 3 := by rw [← hn3]; exact kidsN_le _
              clear hg1 hn3
              go_wp2_with fail
              go_loopw [61] (fun v61 wr => ∃ (i : Nat), v61 = .int .i64 i ∧ i ≤ n3 ∧ Aside0 (wr.heap[w.heap.size]? = some (.cells (clr (.int .i64 0) (cellsOf y) (((List.range n3).map (0 + 1 + ·)).take i)) 45 (0, 0))) ∧ Aside0 (0 < n3 → wr.heap[g1]? = some (.cells (fieldPtrs w.heap.size (0 + 1) n3).toArray 74 (0, 0))) ∧ Aside0 (Below w.heap.size w wr)) (fun v61 _ => n3 - (intOf v61).toNat)
              case atStart => exact ⟨0, rfl, Nat.zero_le _, HY5, HP5, HB5⟩
              case round =>
                obtain ⟨i, rfl, hi, HC, HP, HBR⟩ := hrel
                clear HY5 HP5 HB5
                by_cases hlt : i < n3
                · have hpA : ptrOf g1 n3 = some ⟨g1, 0, none⟩ := ptrOf_some (by omega)
                  rw [hpA]
                  have hsz := HC.out
                  have c1 : ∃ v, wr.cell? ⟨w.heap.size, 0 + 1 + i, none⟩ = some v := by
                    rw [blk_cell HC.out (0 + 1 + i)]
                    exact ⟨_, Array.getElem?_eq_getElem (by rw [clr_size]; show _ < 10; omega)⟩
                  obtain ⟨v, c1⟩ := c1
                  have f1 : wr.frozen? ⟨w.heap.size, 0 + 1 + i, none⟩ = false := blk_frozen HC.out _
                  have c2 : wr.cell? ⟨g1, i, none⟩ = some (.pointer (some ⟨w.heap.size, 0 + 1 + i, none⟩)) := by
                    rw [blk_cell (HP.out (by omega)) i, List.getElem?_toArray]
                    exact fieldPtrs_get _ _ _ _ hlt
                  clear hsz
                  go_wp2
                  go_roundw
                  case rel =>
                    refine ⟨i + 1, by go_num, by omega, ⟨?_⟩, ⟨fun _ => ?_⟩, ⟨?_⟩⟩
                    · rw [show (0 + 1 + i) = 0 + 1 + i from rfl, blk_set HC.out (0 + 1 + i), clr_snoc _ _ _ _ _ (kidPtrs_get 0 i n3 hlt)]
                    · exact blk_far (HP.out (by omega)) (by show g1 ≠ w.heap.size; omega) _
                    · exact HBR.out.setCell (Nat.le_refl _) _
                  case measure => simp [intOf]; omega
                · have hin : i = n3 := by omega
                  subst hin
                  have hc := HC.out
                  rw [List.take_of_length_le (by simp)] at hc
                  have hck := clr_kids y
                  rw [HY0.out, HN3.out] at hck
                  rw [hck] at hc
                  have hk0 := (noKids_kind y).trans HY0.out
                  have ho := HO.out
                  rw [MayTail] at ho
                  generalize noKids y = z at *
                  have d0 : wr.cell? ⟨w.heap.size, 0, none⟩ = some (.int .i64 a0_0) := by rw [blk_cell hc 0, ← hk0]; rfl
                  have d1 : wr.cell? ⟨w.heap.size, 1, none⟩ = some (.int .i64 z.f1) := blk_cell hc 1
                  have d2 : wr.cell? ⟨w.heap.size, 2, none⟩ = some (.int .i64 z.f2) := blk_cell hc 2
                  have d3 : wr.cell? ⟨w.heap.size, 3, none⟩ = some (.int .i64 z.f3) := blk_cell hc 3
                  have d4 : wr.cell? ⟨w.heap.size, 4, none⟩ = some (.int .i64 z.f4) := blk_cell hc 4
                  have d5 : wr.cell? ⟨w.heap.size, 5, none⟩ = some (.string z.f5) := blk_cell hc 5
                  have d6 : wr.cell? ⟨w.heap.size, 6, none⟩ = some (.string z.f6) := blk_cell hc 6
                  have d7 : wr.cell? ⟨w.heap.size, 7, none⟩ = some (.string z.f7) := blk_cell hc 7
                  have d8 : wr.cell? ⟨w.heap.size, 8, none⟩ = some (.string z.f8) := blk_cell hc 8
                  have d9 : wr.cell? ⟨w.heap.size, 9, none⟩ = some (.int .i64 z.f9) := blk_cell hc 9
                  have f4 : wr.frozen? ⟨w.heap.size, 4, none⟩ = false := blk_frozen hc 4
                  have HO2 := Aside0.mk ho
                  clear hc hck hk0 ho HC HO HP
                  go_wp2_with (go_at_call 94; (with_reducible refine (tree_Numbered.calls a0_0 _ _ HQ.out).mono ?_); rintro e w' ⟨rfl, ⟨nd, rfl⟩⟩)
                  all_goals go_ret
                  all_goals
                    refine ⟨?_, ?_⟩
                    · have hr := Option.some.inj HO2.out
                      rw [← hr, b5]
                      clear hr HO2
                      first | (simp [bareNode, noNum]; done) | (rename_i hqb; simp [bareNode, noNum, hqb]; done) | (simp [bareNode, noNum, *]; done)
                    · first | exact HBR.out.setCell (Nat.le_refl _) _ | exact HBR.out | exact pw_below_drewN HBR.out _ | exact (pw_below_drewN HBR.out _).setCell (Nat.le_refl _) _
end Go.Proofs.YtnogfhhfklkbiaaDoor.H

namespace Go.Proofs.YtnogfhhfklkbiaaDoor.H
open Go.RowKit Go.Proofs.YtnogfhhfklkbiaaDoorW.PrintWords Go.Proofs.YtnogfhhfklkbiaaDoorW.PrintLast Go.Proofs.YtnogfhhfklkbiaaDoorW.PrintMore
attribute [local go_sem] max2_int min2_int max_two min_two max_three min_three max_four min_four
set_option linter.unusedVariables false
set_option linter.unusedSimpArgs false
mutual
def tree_Shaped.j0 : Nat → List (S45) → Bool → Bool → Option (Bool)
  | 0, _, _, _ => none
  | k + 1, x0, x1, x14 => if x14 = true then (some false) else (tree_Shaped.l0 k x0 x1 x0 (x0.length : Int) 0)
def tree_Shaped.l0 : Nat → List (S45) → Bool → List (S45) → Int → Int → Option (Bool)
  | 0, _, _, _, _, _ => none
  | k + 1, x0, x1, x15, x16, x17 => if x17 < x16 then (if 0 ≤ x17 then (if x17 < (x15.length : Int) then ((tree_may.f k ((rd_T45 x15 x17).f0) ((rd_T45 x15 x17).f1) ((rd_T45 x15 x17).f2) ((rd_T45 x15 x17).f3) ((rd_T45 x15 x17).f4) ((rd_T45 x15 x17).f5) ((rd_T45 x15 x17).f6) ((rd_T45 x15 x17).f7) ((rd_T45 x15 x17).f8) ((rd_T45 x15 x17).f9) x1).bind fun t283 => (if t283 = true then (tree_Shaped.l0 k x0 x1 x15 x16 (wrap64 (x17 + 1))) else (some false))) else (none)) else (none)) else ((tree_Begin.f k x0 (wrap64 ((x0.length : Int) - 1))).bind fun t284 => (some (t284 == 0)))
end
def tree_Shaped.f (k : Nat) (l0 : List (S45)) (a1 : Bool) : Option (Bool) := if (l0.length : Int) < 1 then (tree_Shaped.j0 k l0 a1 true) else (tree_Shaped.j0 k l0 a1 (decide ((l0.length : Int) > 512)))
theorem tree_Shaped.mono_l : ∀ k, (∀ y0 y1 y2, LeO (tree_Shaped.j0 k y0 y1 y2) (tree_Shaped.j0 (k + 1) y0 y1 y2)) ∧ (∀ y0 y1 y2 y3 y4, LeO (tree_Shaped.l0 k y0 y1 y2 y3 y4) (tree_Shaped.l0 (k + 1) y0 y1 y2 y3 y4))
  | 0 => ⟨fun _ _ _ r h => by simp [tree_Shaped.j0] at h, fun _ _ _ _ _ r h => by simp [tree_Shaped.l0] at h⟩
  | k + 1 => by
    obtain ⟨ih0, ih1⟩ := tree_Shaped.mono_l k
    refine ⟨?_, ?_⟩
    · intro y0 y1 y2
      unfold tree_Shaped.j0
      repeat' first
      | (with_reducible exact ih0 _ _ _)
      | (with_reducible exact ih1 _ _ _ _ _)
      | (with_reducible exact tree_Begin.mono _ _ _)
      | (with_reducible exact tree_may.mono _ _ _ _ _ _ _ _ _ _ _ _)
      | (with_reducible exact LeO.refl _)
      | (with_reducible exact LeO.none _)
      | (with_reducible refine LeO.ite ?_ ?_)
      | (with_reducible refine LeO.bind ?_ (fun _ => ?_))
      | exact ih0 _ _ _
      | exact ih1 _ _ _ _ _
      | exact tree_Begin.mono _ _ _
      | exact tree_may.mono _ _ _ _ _ _ _ _ _ _ _ _
      | exact LeO.none _
      | refine LeO.ite ?_ ?_
      | refine LeO.bind ?_ (fun _ => ?_)
    · intro y0 y1 y2 y3 y4
      unfold tree_Shaped.l0
      repeat' first
      | (with_reducible exact ih0 _ _ _)
      | (with_reducible exact ih1 _ _ _ _ _)
      | (with_reducible exact tree_Begin.mono _ _ _)
      | (with_reducible exact tree_may.mono _ _ _ _ _ _ _ _ _ _ _ _)
      | (with_reducible exact LeO.refl _)
      | (with_reducible exact LeO.none _)
      | (with_reducible refine LeO.ite ?_ ?_)
      | (with_reducible refine LeO.bind ?_ (fun _ => ?_))
      | exact ih0 _ _ _
      | exact ih1 _ _ _ _ _
      | exact tree_Begin.mono _ _ _
      | exact tree_may.mono _ _ _ _ _ _ _ _ _ _ _ _
      | exact LeO.none _
      | refine LeO.ite ?_ ?_
      | refine LeO.bind ?_ (fun _ => ?_)
theorem tree_Shaped.mono : ∀ a0 a1 k, LeO (tree_Shaped.f k a0 a1) (tree_Shaped.f (k + 1) a0 a1) := by
  intro a0 a1 k
  obtain ⟨ih0, ih1⟩ := tree_Shaped.mono_l k
  unfold tree_Shaped.f
  repeat' first
      | (with_reducible exact ih0 _ _ _)
      | (with_reducible exact ih1 _ _ _ _ _)
      | (with_reducible exact tree_Begin.mono _ _ _)
      | (with_reducible exact tree_may.mono _ _ _ _ _ _ _ _ _ _ _ _)
      | (with_reducible exact LeO.refl _)
      | (with_reducible exact LeO.none _)
      | (with_reducible refine LeO.ite ?_ ?_)
      | (with_reducible refine LeO.bind ?_ (fun _ => ?_))
      | exact ih0 _ _ _
      | exact ih1 _ _ _ _ _
      | exact tree_Begin.mono _ _ _
      | exact tree_may.mono _ _ _ _ _ _ _ _ _ _ _ _
      | exact LeO.none _
      | refine LeO.ite ?_ ?_
      | refine LeO.bind ?_ (fun _ => ?_)
set_option maxHeartbeats 8000000 in
set_option maxRecDepth 100000 in
theorem tree_Shaped.calls (k : Nat) (A0 : Option Addr) (c0 : Nat) (l0 : List (S45)) (a1 : Bool) (r : Bool) (w : World) (hr0 : Kd.C k45 w A0 l0.length l0) (hc0 : l0.length ≤ c0) (h : tree_Shaped.f k l0 a1 = some r) :
    Calls Tryd.prog 47 #[.slice A0 l0.length c0, .bool a1] w fun e w' => e = .returned (.bool r) ∧ Below w.heap.size w w' := by
  have hu45 := Tryd.underlying45
  have HR0 := Aside0.mk hr0
  have HC0 := Aside0.mk hc0
  clear hr0 hc0
  have HB := Aside0.mk (Below.refl w.heap.size w)
  have H : (if (l0.length : Int) < 1 then (tree_Shaped.j0 k l0 a1 true) else (tree_Shaped.j0 k l0 a1 (decide ((l0.length : Int) > 512)))) = some r := h
  clear h
  have HC3 := Aside0.mk H
  clear H
  go_enter Tryd.func47, Tryd.ntmps47
  go_upto_region 1 with (fail)
  go_cut [14] (fun v14 wc => ∃ (kq : Nat) (x14_2 : Bool), v14 = .bool x14_2 ∧ Aside0 (tree_Shaped.j0 kq l0 a1 x14_2 = some r) ∧ Aside0 (kq ≤ k) ∧ Aside0 (Below w.heap.size w wc))
  case first =>
    have H := HC3.out
    clear HC3
    by_cases c4 : (l0.length : Int) < 1
    · rw [if_pos c4] at H
      have c4b0 : decide ((l0.length : Int) < 1) = true := decide_eq_true c4
      have c4b1 : decide (l0.length < 1) = true := decide_eq_true (by omega)
      clear c4
      (first | rw [c4b0] | (simp only [i64_w, i32_w]; rw [c4b0]) | skip)
      have H' := Aside0.mk H
      clear H
      go_wp2
      go_meet
      case rel => exact ⟨_, (true), (by first | rfl | (simp; done) | (simp [*]; done)), H', ⟨by first | omega | exact Nat.le_refl _⟩, ⟨by repeat (first | (with_reducible first | exact HB.out | apply below_alloc | apply pw_below_drewN | apply below_drew1) | exact HB.out)⟩⟩
    · rw [if_neg c4] at H
      have c4b0 : decide ((l0.length : Int) < 1) = false := decide_eq_false c4
      have c4b1 : decide (l0.length < 1) = false := decide_eq_false (by omega)
      clear c4
      (first | rw [c4b0] | (simp only [i64_w, i32_w]; rw [c4b0]) | skip)
      have H' := Aside0.mk H
      clear H
      go_wp2
      go_meet
      case rel => exact ⟨_, (decide ((l0.length : Int) > 512)), (by first | rfl | (simp; done) | (simp [*]; done)), H', ⟨by first | omega | exact Nat.le_refl _⟩, ⟨by repeat (first | (with_reducible first | exact HB.out | apply below_alloc | apply pw_below_drewN | apply below_drew1) | exact HB.out)⟩⟩
  case rest =>
    clear HC3
    try clear p2
    try clear c4
    try clear c4b0
    try clear c4b1
    obtain ⟨kq, x14_2, rfl, HA, HJ2, HB⟩ := hcut
    cases kq with
    | zero => exact absurd HA.out (by simp [tree_Shaped.j0])
    | succ kj2 =>
      have H := HA.out
      clear HA
      simp only [tree_Shaped.j0] at H
      by_cases c5 : x14_2 = true
      · subst c5
        have H1 : (some false) = some r := by rw [if_pos rfl] at H; exact H
        clear H
        have H := H1
        clear H1
        obtain rfl := Option.some.inj H
        go_wp2
        go_ret
        exact ⟨by first | rfl | (simp [errW_none, errW_some] <;> rfl) | (simp [*, errW_none, errW_some] <;> rfl), by repeat (first | (with_reducible first | exact HB.out | apply below_alloc | apply pw_below_drewN | apply below_drew1) | exact HB.out)⟩
      · replace c5 := Bool.eq_false_iff.mpr c5
        subst c5
        have H1 : (tree_Shaped.l0 kj2 l0 a1 l0 (l0.length : Int) 0) = some r := by rw [if_neg (show ¬ (false = true) by decide)] at H; exact H
        clear H
        have H := H1
        clear H1
        have H' := Aside0.mk H
        clear H
        go_wp2
        go_loopg [17] kj2 (fun kq v17 w' => ∃ (x17_2 : Int), v17 = .int .i64 x17_2 ∧ Aside0 (tree_Shaped.l0 kq l0 a1 l0 (l0.length : Int) x17_2 = some r) ∧ Aside0 (kq ≤ kj2) ∧ Aside0 (Below w.heap.size w w'))
        case atStart => exact ⟨(0), (by first | rfl | (simp; done) | (simp [*]; done)), H', ⟨Nat.le_refl _⟩, ⟨by repeat (first | (with_reducible first | exact HB.out | apply below_alloc | apply pw_below_drewN | apply below_drew1) | exact HB.out)⟩⟩
        case round =>
          clear H'
          try clear p2
          try clear c4
          try clear c4b0
          try clear c4b1
          try clear c5
          try clear p2
          obtain ⟨x17_2, rfl, HA, HK2, HB⟩ := hrel
          cases gk with
          | zero => exact absurd HA.out (by simp [tree_Shaped.l0])
          | succ k2 =>
            have H := HA.out
            clear HA
            simp only [tree_Shaped.l0] at H
            by_cases c6 : x17_2 < (l0.length : Int)
            · rw [if_pos c6] at H
              have c6b0 : decide (x17_2 < (l0.length : Int)) = true := decide_eq_true c6
              clear c6
              by_cases c7 : 0 ≤ x17_2
              · rw [if_pos c7] at H
                have c7b0 : decide (0 ≤ x17_2) = true := decide_eq_true c7
                clear c7
                by_cases c8 : x17_2 < (l0.length : Int)
                · rw [if_pos c8] at H
                  have c8b0 : decide (x17_2 < (l0.length : Int)) = true := decide_eq_true c8
                  clear c8
                  replace H := Option.bind_eq_some_iff.mp H
                  obtain ⟨t283, A90, H⟩ := H
                  replace H : (if t283 = true then (tree_Shaped.l0 k2 l0 a1 l0 (l0.length : Int) (wrap64 (x17_2 + 1))) else (some false)) = some r := H
                  have A9 := Aside0.mk A90
                  clear A90
                  by_cases c10 : t283 = true
                  · subst c10
                    have H1 : (tree_Shaped.l0 k2 l0 a1 l0 (l0.length : Int) (wrap64 (x17_2 + 1))) = some r := by rw [if_pos rfl] at H; exact H
                    clear H
                    have H := H1
                    clear H1
                    have H' := Aside0.mk H
                    clear H
                    have p281 : 0 ≤ (x17_2 : Int) := of_decide_eq_true (by first | (with_reducible assumption) | assumption)
                    have q281 : x17_2 < (l0.length : Int) := of_decide_eq_true (by first | (with_reducible assumption) | assumption)
                    obtain ⟨ad281, e281, hx281_0, hx281_1, hx281_2, hx281_3, hx281_4, hx281_5, hx281_6, hx281_7, hx281_8, hx281_9⟩ := at_T45 HR0.out x17_2 p281 q281
                    cases e281
                    replace hx281_0 := (HB.out.cell (World.block_lt_of_cell? w _ hx281_0)).trans hx281_0
                    replace hx281_1 := (HB.out.cell (World.block_lt_of_cell? w _ hx281_1)).trans hx281_1
                    replace hx281_2 := (HB.out.cell (World.block_lt_of_cell? w _ hx281_2)).trans hx281_2
                    replace hx281_3 := (HB.out.cell (World.block_lt_of_cell? w _ hx281_3)).trans hx281_3
                    replace hx281_4 := (HB.out.cell (World.block_lt_of_cell? w _ hx281_4)).trans hx281_4
                    replace hx281_5 := (HB.out.cell (World.block_lt_of_cell? w _ hx281_5)).trans hx281_5
                    replace hx281_6 := (HB.out.cell (World.block_lt_of_cell? w _ hx281_6)).trans hx281_6
                    replace hx281_7 := (HB.out.cell (World.block_lt_of_cell? w _ hx281_7)).trans hx281_7
                    replace hx281_8 := (HB.out.cell (World.block_lt_of_cell? w _ hx281_8)).trans hx281_8
                    replace hx281_9 := (HB.out.cell (World.block_lt_of_cell? w _ hx281_9)).trans hx281_9
                    replace p281 := eq_true p281
                    replace q281 := eq_true q281
                    go_wp2_with (first | ((with_reducible refine gate_dst (N := 6) rfl ?_); (try (refine gate_guard (by rfl) ?_; dsimp only)); refine box_event ?hg (N := 6) ?hd (cs := #[.int .i64 0, .int .i64 0, .int .i64 0, .int .i64 0, .int .i64 0, .string (⟨#[]⟩ : ByteArray), .string (⟨#[]⟩ : ByteArray), .string (⟨#[]⟩ : ByteArray), .string (⟨#[]⟩ : ByteArray), .int .i64 0]) (t := 45) ?hr ?_; (case hd => rfl); (case hg => rfl); (case hr => first | (go_simp; done) | (go_simp; rfl)); intro gb282 hg w11 hbox hb; have n0_ := Aside0.mk (below_step (by repeat (first | (with_reducible first | exact HB.out | apply below_alloc | apply pw_below_drewN | apply below_drew1) | exact HB.out)) hb); have n1_ := Aside0.mk (hbox); have n2_ := Aside0.mk ((by rw [hg]; exact (below_size (by repeat (first | (with_reducible first | exact HB.out | apply below_alloc | apply pw_below_drewN | apply below_drew1) | exact HB.out))) : w.heap.size ≤ gb282)); have n3_ := Aside0.mk ((by rw [hg]; exact (below_size (by repeat (first | (with_reducible first | exact HB.out | apply below_alloc | apply pw_below_drewN | apply below_drew1) | exact HB.out))) : w.heap.size ≤ gb282)); clear HB; have HB := n0_; have BK282 := n1_; have GW282 := n2_; have GE282 := n3_; clear n0_ n1_ n2_ n3_; clear hb hbox hg; have hcz12_0 : w11.cell? ⟨gb282, 0, none⟩ = some (.int .i64 0) := (blk_cell BK282.out 0).trans rfl; have hcz12_1 : w11.cell? ⟨gb282, 1, none⟩ = some (.int .i64 0) := (blk_cell BK282.out 1).trans rfl; have hcz12_2 : w11.cell? ⟨gb282, 2, none⟩ = some (.int .i64 0) := (blk_cell BK282.out 2).trans rfl; have hcz12_3 : w11.cell? ⟨gb282, 3, none⟩ = some (.int .i64 0) := (blk_cell BK282.out 3).trans rfl; have hcz12_4 : w11.cell? ⟨gb282, 4, none⟩ = some (.int .i64 0) := (blk_cell BK282.out 4).trans rfl; have hcz12_5 : w11.cell? ⟨gb282, 5, none⟩ = some (.string (⟨#[]⟩ : ByteArray)) := (blk_cell BK282.out 5).trans rfl; have hcz12_6 : w11.cell? ⟨gb282, 6, none⟩ = some (.string (⟨#[]⟩ : ByteArray)) := (blk_cell BK282.out 6).trans rfl; have hcz12_7 : w11.cell? ⟨gb282, 7, none⟩ = some (.string (⟨#[]⟩ : ByteArray)) := (blk_cell BK282.out 7).trans rfl; have hcz12_8 : w11.cell? ⟨gb282, 8, none⟩ = some (.string (⟨#[]⟩ : ByteArray)) := (blk_cell BK282.out 8).trans rfl; have hcz12_9 : w11.cell? ⟨gb282, 9, none⟩ = some (.int .i64 0) := (blk_cell BK282.out 9).trans rfl; have hfz12_0 := blk_frozen BK282.out 0; have hfz12_1 := blk_frozen BK282.out 1; have hfz12_2 := blk_frozen BK282.out 2; have hfz12_3 := blk_frozen BK282.out 3; have hfz12_4 := blk_frozen BK282.out 4; have hfz12_5 := blk_frozen BK282.out 5; have hfz12_6 := blk_frozen BK282.out 6; have hfz12_7 := blk_frozen BK282.out 7; have hfz12_8 := blk_frozen BK282.out 8; have hfz12_9 := blk_frozen BK282.out 9) | ((with_reducible refine gate_callee (f := 71) rfl ?_); refine goesL_ (some 23) rfl rfl Tryd.func71 (by kernel_rfl) rfl #[.agg #[.int .i64 ((rd_T45 l0 x17_2).f0), .int .i64 ((rd_T45 l0 x17_2).f1), .int .i64 ((rd_T45 l0 x17_2).f2), .int .i64 ((rd_T45 l0 x17_2).f3), .int .i64 ((rd_T45 l0 x17_2).f4), .string ((rd_T45 l0 x17_2).f5), .string ((rd_T45 l0 x17_2).f6), .string ((rd_T45 l0 x17_2).f7), .string ((rd_T45 l0 x17_2).f8), .int .i64 ((rd_T45 l0 x17_2).f9)], .bool a1] rfl (by (try simp only [List.map_toArray, List.map_cons, List.map_nil]); first | done | rfl | (simp only [List.length_drop, List.length_take]; rfl)) ?_; (with_reducible refine (tree_may.calls k2 ((rd_T45 l0 x17_2).f0) ((rd_T45 l0 x17_2).f1) ((rd_T45 l0 x17_2).f2) ((rd_T45 l0 x17_2).f3) ((rd_T45 l0 x17_2).f4) ((rd_T45 l0 x17_2).f5) ((rd_T45 l0 x17_2).f6) ((rd_T45 l0 x17_2).f7) ((rd_T45 l0 x17_2).f8) ((rd_T45 l0 x17_2).f9) a1 true _ A9.out).mono ?_); rintro e w13 ⟨rfl, hb⟩; refine ⟨_, rfl, ?_⟩; have n0_ := Aside0.mk (blk_below (g := gb282) (o := .cells #[.int .i64 ((rd_T45 l0 x17_2).f0), .int .i64 ((rd_T45 l0 x17_2).f1), .int .i64 ((rd_T45 l0 x17_2).f2), .int .i64 ((rd_T45 l0 x17_2).f3), .int .i64 ((rd_T45 l0 x17_2).f4), .string ((rd_T45 l0 x17_2).f5), .string ((rd_T45 l0 x17_2).f6), .string ((rd_T45 l0 x17_2).f7), .string ((rd_T45 l0 x17_2).f8), .int .i64 ((rd_T45 l0 x17_2).f9)] 45 (0, 0)) (by (with_reducible repeat (first | refine blk_drewN ?_ _ | refine blk_drew ?_ | refine blk_alloc ?_ _)); refine blk_put (cs := #[.int .i64 ((rd_T45 l0 x17_2).f0), .int .i64 ((rd_T45 l0 x17_2).f1), .int .i64 ((rd_T45 l0 x17_2).f2), .int .i64 ((rd_T45 l0 x17_2).f3), .int .i64 ((rd_T45 l0 x17_2).f4), .string ((rd_T45 l0 x17_2).f5), .string ((rd_T45 l0 x17_2).f6), .string ((rd_T45 l0 x17_2).f7), .string ((rd_T45 l0 x17_2).f8), .int .i64 0]) ?_ 9 _ rfl; (with_reducible repeat (first | refine blk_drewN ?_ _ | refine blk_drew ?_ | refine blk_alloc ?_ _)); refine blk_put (cs := #[.int .i64 ((rd_T45 l0 x17_2).f0), .int .i64 ((rd_T45 l0 x17_2).f1), .int .i64 ((rd_T45 l0 x17_2).f2), .int .i64 ((rd_T45 l0 x17_2).f3), .int .i64 ((rd_T45 l0 x17_2).f4), .string ((rd_T45 l0 x17_2).f5), .string ((rd_T45 l0 x17_2).f6), .string ((rd_T45 l0 x17_2).f7), .string (⟨#[]⟩ : ByteArray), .int .i64 0]) ?_ 8 _ rfl; (with_reducible repeat (first | refine blk_drewN ?_ _ | refine blk_drew ?_ | refine blk_alloc ?_ _)); refine blk_put (cs := #[.int .i64 ((rd_T45 l0 x17_2).f0), .int .i64 ((rd_T45 l0 x17_2).f1), .int .i64 ((rd_T45 l0 x17_2).f2), .int .i64 ((rd_T45 l0 x17_2).f3), .int .i64 ((rd_T45 l0 x17_2).f4), .string ((rd_T45 l0 x17_2).f5), .string ((rd_T45 l0 x17_2).f6), .string (⟨#[]⟩ : ByteArray), .string (⟨#[]⟩ : ByteArray), .int .i64 0]) ?_ 7 _ rfl; (with_reducible repeat (first | refine blk_drewN ?_ _ | refine blk_drew ?_ | refine blk_alloc ?_ _)); refine blk_put (cs := #[.int .i64 ((rd_T45 l0 x17_2).f0), .int .i64 ((rd_T45 l0 x17_2).f1), .int .i64 ((rd_T45 l0 x17_2).f2), .int .i64 ((rd_T45 l0 x17_2).f3), .int .i64 ((rd_T45 l0 x17_2).f4), .string ((rd_T45 l0 x17_2).f5), .string (⟨#[]⟩ : ByteArray), .string (⟨#[]⟩ : ByteArray), .string (⟨#[]⟩ : ByteArray), .int .i64 0]) ?_ 6 _ rfl; (with_reducible repeat (first | refine blk_drewN ?_ _ | refine blk_drew ?_ | refine blk_alloc ?_ _)); refine blk_put (cs := #[.int .i64 ((rd_T45 l0 x17_2).f0), .int .i64 ((rd_T45 l0 x17_2).f1), .int .i64 ((rd_T45 l0 x17_2).f2), .int .i64 ((rd_T45 l0 x17_2).f3), .int .i64 ((rd_T45 l0 x17_2).f4), .string (⟨#[]⟩ : ByteArray), .string (⟨#[]⟩ : ByteArray), .string (⟨#[]⟩ : ByteArray), .string (⟨#[]⟩ : ByteArray), .int .i64 0]) ?_ 5 _ rfl; (with_reducible repeat (first | refine blk_drewN ?_ _ | refine blk_drew ?_ | refine blk_alloc ?_ _)); refine blk_put (cs := #[.int .i64 ((rd_T45 l0 x17_2).f0), .int .i64 ((rd_T45 l0 x17_2).f1), .int .i64 ((rd_T45 l0 x17_2).f2), .int .i64 ((rd_T45 l0 x17_2).f3), .int .i64 0, .string (⟨#[]⟩ : ByteArray), .string (⟨#[]⟩ : ByteArray), .string (⟨#[]⟩ : ByteArray), .string (⟨#[]⟩ : ByteArray), .int .i64 0]) ?_ 4 _ rfl; (with_reducible repeat (first | refine blk_drewN ?_ _ | refine blk_drew ?_ | refine blk_alloc ?_ _)); refine blk_put (cs := #[.int .i64 ((rd_T45 l0 x17_2).f0), .int .i64 ((rd_T45 l0 x17_2).f1), .int .i64 ((rd_T45 l0 x17_2).f2), .int .i64 0, .int .i64 0, .string (⟨#[]⟩ : ByteArray), .string (⟨#[]⟩ : ByteArray), .string (⟨#[]⟩ : ByteArray), .string (⟨#[]⟩ : ByteArray), .int .i64 0]) ?_ 3 _ rfl; (with_reducible repeat (first | refine blk_drewN ?_ _ | refine blk_drew ?_ | refine blk_alloc ?_ _)); refine blk_put (cs := #[.int .i64 ((rd_T45 l0 x17_2).f0), .int .i64 ((rd_T45 l0 x17_2).f1), .int .i64 0, .int .i64 0, .int .i64 0, .string (⟨#[]⟩ : ByteArray), .string (⟨#[]⟩ : ByteArray), .string (⟨#[]⟩ : ByteArray), .string (⟨#[]⟩ : ByteArray), .int .i64 0]) ?_ 2 _ rfl; (with_reducible repeat (first | refine blk_drewN ?_ _ | refine blk_drew ?_ | refine blk_alloc ?_ _)); refine blk_put (cs := #[.int .i64 ((rd_T45 l0 x17_2).f0), .int .i64 0, .int .i64 0, .int .i64 0, .int .i64 0, .string (⟨#[]⟩ : ByteArray), .string (⟨#[]⟩ : ByteArray), .string (⟨#[]⟩ : ByteArray), .string (⟨#[]⟩ : ByteArray), .int .i64 0]) ?_ 1 _ rfl; (with_reducible repeat (first | refine blk_drewN ?_ _ | refine blk_drew ?_ | refine blk_alloc ?_ _)); refine blk_put (cs := #[.int .i64 0, .int .i64 0, .int .i64 0, .int .i64 0, .int .i64 0, .string (⟨#[]⟩ : ByteArray), .string (⟨#[]⟩ : ByteArray), .string (⟨#[]⟩ : ByteArray), .string (⟨#[]⟩ : ByteArray), .int .i64 0]) ?_ 0 _ rfl; (with_reducible repeat (first | refine blk_drewN ?_ _ | refine blk_drew ?_ | refine blk_alloc ?_ _)); exact BK282.out) hb); have n1_ := Aside0.mk (below_step (by repeat (first | (with_reducible first | exact HB.out | apply below_alloc | apply pw_below_drewN | apply below_drew1 | refine below_set ?_ GE282.out) | exact HB.out)) hb); clear BK282; clear HB; have BK282 := n0_; have HB := n1_; clear n0_ n1_; (try clear hb); (try clear hb2); (try clear hk); (try clear hi)))
                    go_roundg k2
                    case measure => have := HJ2.out; have := HK2.out; omega
                    case rel => exact ⟨(wrap64 (x17_2 + 1)), (by first | rfl | (simp; done) | (simp [*]; done)), H', ⟨by have := HJ2.out; have := HK2.out; omega⟩, ⟨by repeat (first | (with_reducible first | exact HB.out | apply below_alloc | apply pw_below_drewN | apply below_drew1 | refine below_set ?_ GE282.out) | exact HB.out)⟩⟩
                  · replace c10 := Bool.eq_false_iff.mpr c10
                    subst c10
                    have H1 : (some false) = some r := by rw [if_neg (show ¬ (false = true) by decide)] at H; exact H
                    clear H
                    have H := H1
                    clear H1
                    obtain rfl := Option.some.inj H
                    have p281 : 0 ≤ (x17_2 : Int) := of_decide_eq_true (by first | (with_reducible assumption) | assumption)
                    have q281 : x17_2 < (l0.length : Int) := of_decide_eq_true (by first | (with_reducible assumption) | assumption)
                    obtain ⟨ad281, e281, hx281_0, hx281_1, hx281_2, hx281_3, hx281_4, hx281_5, hx281_6, hx281_7, hx281_8, hx281_9⟩ := at_T45 HR0.out x17_2 p281 q281
                    cases e281
                    replace hx281_0 := (HB.out.cell (World.block_lt_of_cell? w _ hx281_0)).trans hx281_0
                    replace hx281_1 := (HB.out.cell (World.block_lt_of_cell? w _ hx281_1)).trans hx281_1
                    replace hx281_2 := (HB.out.cell (World.block_lt_of_cell? w _ hx281_2)).trans hx281_2
                    replace hx281_3 := (HB.out.cell (World.block_lt_of_cell? w _ hx281_3)).trans hx281_3
                    replace hx281_4 := (HB.out.cell (World.block_lt_of_cell? w _ hx281_4)).trans hx281_4
                    replace hx281_5 := (HB.out.cell (World.block_lt_of_cell? w _ hx281_5)).trans hx281_5
                    replace hx281_6 := (HB.out.cell (World.block_lt_of_cell? w _ hx281_6)).trans hx281_6
                    replace hx281_7 := (HB.out.cell (World.block_lt_of_cell? w _ hx281_7)).trans hx281_7
                    replace hx281_8 := (HB.out.cell (World.block_lt_of_cell? w _ hx281_8)).trans hx281_8
                    replace hx281_9 := (HB.out.cell (World.block_lt_of_cell? w _ hx281_9)).trans hx281_9
                    replace p281 := eq_true p281
                    replace q281 := eq_true q281
                    go_wp2_with (first | ((with_reducible refine gate_dst (N := 6) rfl ?_); (try (refine gate_guard (by rfl) ?_; dsimp only)); refine box_event ?hg (N := 6) ?hd (cs := #[.int .i64 0, .int .i64 0, .int .i64 0, .int .i64 0, .int .i64 0, .string (⟨#[]⟩ : ByteArray), .string (⟨#[]⟩ : ByteArray), .string (⟨#[]⟩ : ByteArray), .string (⟨#[]⟩ : ByteArray), .int .i64 0]) (t := 45) ?hr ?_; (case hd => rfl); (case hg => rfl); (case hr => first | (go_simp; done) | (go_simp; rfl)); intro gb282 hg w14 hbox hb; have n0_ := Aside0.mk (below_step (by repeat (first | (with_reducible first | exact HB.out | apply below_alloc | apply pw_below_drewN | apply below_drew1) | exact HB.out)) hb); have n1_ := Aside0.mk (hbox); have n2_ := Aside0.mk ((by rw [hg]; exact (below_size (by repeat (first | (with_reducible first | exact HB.out | apply below_alloc | apply pw_below_drewN | apply below_drew1) | exact HB.out))) : w.heap.size ≤ gb282)); have n3_ := Aside0.mk ((by rw [hg]; exact (below_size (by repeat (first | (with_reducible first | exact HB.out | apply below_alloc | apply pw_below_drewN | apply below_drew1) | exact HB.out))) : w.heap.size ≤ gb282)); clear HB; have HB := n0_; have BK282 := n1_; have GW282 := n2_; have GE282 := n3_; clear n0_ n1_ n2_ n3_; clear hb hbox hg; have hcz15_0 : w14.cell? ⟨gb282, 0, none⟩ = some (.int .i64 0) := (blk_cell BK282.out 0).trans rfl; have hcz15_1 : w14.cell? ⟨gb282, 1, none⟩ = some (.int .i64 0) := (blk_cell BK282.out 1).trans rfl; have hcz15_2 : w14.cell? ⟨gb282, 2, none⟩ = some (.int .i64 0) := (blk_cell BK282.out 2).trans rfl; have hcz15_3 : w14.cell? ⟨gb282, 3, none⟩ = some (.int .i64 0) := (blk_cell BK282.out 3).trans rfl; have hcz15_4 : w14.cell? ⟨gb282, 4, none⟩ = some (.int .i64 0) := (blk_cell BK282.out 4).trans rfl; have hcz15_5 : w14.cell? ⟨gb282, 5, none⟩ = some (.string (⟨#[]⟩ : ByteArray)) := (blk_cell BK282.out 5).trans rfl; have hcz15_6 : w14.cell? ⟨gb282, 6, none⟩ = some (.string (⟨#[]⟩ : ByteArray)) := (blk_cell BK282.out 6).trans rfl; have hcz15_7 : w14.cell? ⟨gb282, 7, none⟩ = some (.string (⟨#[]⟩ : ByteArray)) := (blk_cell BK282.out 7).trans rfl; have hcz15_8 : w14.cell? ⟨gb282, 8, none⟩ = some (.string (⟨#[]⟩ : ByteArray)) := (blk_cell BK282.out 8).trans rfl; have hcz15_9 : w14.cell? ⟨gb282, 9, none⟩ = some (.int .i64 0) := (blk_cell BK282.out 9).trans rfl; have hfz15_0 := blk_frozen BK282.out 0; have hfz15_1 := blk_frozen BK282.out 1; have hfz15_2 := blk_frozen BK282.out 2; have hfz15_3 := blk_frozen BK282.out 3; have hfz15_4 := blk_frozen BK282.out 4; have hfz15_5 := blk_frozen BK282.out 5; have hfz15_6 := blk_frozen BK282.out 6; have hfz15_7 := blk_frozen BK282.out 7; have hfz15_8 := blk_frozen BK282.out 8; have hfz15_9 := blk_frozen BK282.out 9) | ((with_reducible refine gate_callee (f := 71) rfl ?_); refine goesL_ (some 23) rfl rfl Tryd.func71 (by kernel_rfl) rfl #[.agg #[.int .i64 ((rd_T45 l0 x17_2).f0), .int .i64 ((rd_T45 l0 x17_2).f1), .int .i64 ((rd_T45 l0 x17_2).f2), .int .i64 ((rd_T45 l0 x17_2).f3), .int .i64 ((rd_T45 l0 x17_2).f4), .string ((rd_T45 l0 x17_2).f5), .string ((rd_T45 l0 x17_2).f6), .string ((rd_T45 l0 x17_2).f7), .string ((rd_T45 l0 x17_2).f8), .int .i64 ((rd_T45 l0 x17_2).f9)], .bool a1] rfl (by (try simp only [List.map_toArray, List.map_cons, List.map_nil]); first | done | rfl | (simp only [List.length_drop, List.length_take]; rfl)) ?_; (with_reducible refine (tree_may.calls k2 ((rd_T45 l0 x17_2).f0) ((rd_T45 l0 x17_2).f1) ((rd_T45 l0 x17_2).f2) ((rd_T45 l0 x17_2).f3) ((rd_T45 l0 x17_2).f4) ((rd_T45 l0 x17_2).f5) ((rd_T45 l0 x17_2).f6) ((rd_T45 l0 x17_2).f7) ((rd_T45 l0 x17_2).f8) ((rd_T45 l0 x17_2).f9) a1 false _ A9.out).mono ?_); rintro e w16 ⟨rfl, hb⟩; refine ⟨_, rfl, ?_⟩; have n0_ := Aside0.mk (blk_below (g := gb282) (o := .cells #[.int .i64 ((rd_T45 l0 x17_2).f0), .int .i64 ((rd_T45 l0 x17_2).f1), .int .i64 ((rd_T45 l0 x17_2).f2), .int .i64 ((rd_T45 l0 x17_2).f3), .int .i64 ((rd_T45 l0 x17_2).f4), .string ((rd_T45 l0 x17_2).f5), .string ((rd_T45 l0 x17_2).f6), .string ((rd_T45 l0 x17_2).f7), .string ((rd_T45 l0 x17_2).f8), .int .i64 ((rd_T45 l0 x17_2).f9)] 45 (0, 0)) (by (with_reducible repeat (first | refine blk_drewN ?_ _ | refine blk_drew ?_ | refine blk_alloc ?_ _)); refine blk_put (cs := #[.int .i64 ((rd_T45 l0 x17_2).f0), .int .i64 ((rd_T45 l0 x17_2).f1), .int .i64 ((rd_T45 l0 x17_2).f2), .int .i64 ((rd_T45 l0 x17_2).f3), .int .i64 ((rd_T45 l0 x17_2).f4), .string ((rd_T45 l0 x17_2).f5), .string ((rd_T45 l0 x17_2).f6), .string ((rd_T45 l0 x17_2).f7), .string ((rd_T45 l0 x17_2).f8), .int .i64 0]) ?_ 9 _ rfl; (with_reducible repeat (first | refine blk_drewN ?_ _ | refine blk_drew ?_ | refine blk_alloc ?_ _)); refine blk_put (cs := #[.int .i64 ((rd_T45 l0 x17_2).f0), .int .i64 ((rd_T45 l0 x17_2).f1), .int .i64 ((rd_T45 l0 x17_2).f2), .int .i64 ((rd_T45 l0 x17_2).f3), .int .i64 ((rd_T45 l0 x17_2).f4), .string ((rd_T45 l0 x17_2).f5), .string ((rd_T45 l0 x17_2).f6), .string ((rd_T45 l0 x17_2).f7), .string (⟨#[]⟩ : ByteArray), .int .i64 0]) ?_ 8 _ rfl; (with_reducible repeat (first | refine blk_drewN ?_ _ | refine blk_drew ?_ | refine blk_alloc ?_ _)); refine blk_put (cs := #[.int .i64 ((rd_T45 l0 x17_2).f0), .int .i64 ((rd_T45 l0 x17_2).f1), .int .i64 ((rd_T45 l0 x17_2).f2), .int .i64 ((rd_T45 l0 x17_2).f3), .int .i64 ((rd_T45 l0 x17_2).f4), .string ((rd_T45 l0 x17_2).f5), .string ((rd_T45 l0 x17_2).f6), .string (⟨#[]⟩ : ByteArray), .string (⟨#[]⟩ : ByteArray), .int .i64 0]) ?_ 7 _ rfl; (with_reducible repeat (first | refine blk_drewN ?_ _ | refine blk_drew ?_ | refine blk_alloc ?_ _)); refine blk_put (cs := #[.int .i64 ((rd_T45 l0 x17_2).f0), .int .i64 ((rd_T45 l0 x17_2).f1), .int .i64 ((rd_T45 l0 x17_2).f2), .int .i64 ((rd_T45 l0 x17_2).f3), .int .i64 ((rd_T45 l0 x17_2).f4), .string ((rd_T45 l0 x17_2).f5), .string (⟨#[]⟩ : ByteArray), .string (⟨#[]⟩ : ByteArray), .string (⟨#[]⟩ : ByteArray), .int .i64 0]) ?_ 6 _ rfl; (with_reducible repeat (first | refine blk_drewN ?_ _ | refine blk_drew ?_ | refine blk_alloc ?_ _)); refine blk_put (cs := #[.int .i64 ((rd_T45 l0 x17_2).f0), .int .i64 ((rd_T45 l0 x17_2).f1), .int .i64 ((rd_T45 l0 x17_2).f2), .int .i64 ((rd_T45 l0 x17_2).f3), .int .i64 ((rd_T45 l0 x17_2).f4), .string (⟨#[]⟩ : ByteArray), .string (⟨#[]⟩ : ByteArray), .string (⟨#[]⟩ : ByteArray), .string (⟨#[]⟩ : ByteArray), .int .i64 0]) ?_ 5 _ rfl; (with_reducible repeat (first | refine blk_drewN ?_ _ | refine blk_drew ?_ | refine blk_alloc ?_ _)); refine blk_put (cs := #[.int .i64 ((rd_T45 l0 x17_2).f0), .int .i64 ((rd_T45 l0 x17_2).f1), .int .i64 ((rd_T45 l0 x17_2).f2), .int .i64 ((rd_T45 l0 x17_2).f3), .int .i64 0, .string (⟨#[]⟩ : ByteArray), .string (⟨#[]⟩ : ByteArray), .string (⟨#[]⟩ : ByteArray), .string (⟨#[]⟩ : ByteArray), .int .i64 0]) ?_ 4 _ rfl; (with_reducible repeat (first | refine blk_drewN ?_ _ | refine blk_drew ?_ | refine blk_alloc ?_ _)); refine blk_put (cs := #[.int .i64 ((rd_T45 l0 x17_2).f0), .int .i64 ((rd_T45 l0 x17_2).f1), .int .i64 ((rd_T45 l0 x17_2).f2), .int .i64 0, .int .i64 0, .string (⟨#[]⟩ : ByteArray), .string (⟨#[]⟩ : ByteArray), .string (⟨#[]⟩ : ByteArray), .string (⟨#[]⟩ : ByteArray), .int .i64 0]) ?_ 3 _ rfl; (with_reducible repeat (first | refine blk_drewN ?_ _ | refine blk_drew ?_ | refine blk_alloc ?_ _)); refine blk_put (cs := #[.int .i64 ((rd_T45 l0 x17_2).f0), .int .i64 ((rd_T45 l0 x17_2).f1), .int .i64 0, .int .i64 0, .int .i64 0, .string (⟨#[]⟩ : ByteArray), .string (⟨#[]⟩ : ByteArray), .string (⟨#[]⟩ : ByteArray), .string (⟨#[]⟩ : ByteArray), .int .i64 0]) ?_ 2 _ rfl; (with_reducible repeat (first | refine blk_drewN ?_ _ | refine blk_drew ?_ | refine blk_alloc ?_ _)); refine blk_put (cs := #[.int .i64 ((rd_T45 l0 x17_2).f0), .int .i64 0, .int .i64 0, .int .i64 0, .int .i64 0, .string (⟨#[]⟩ : ByteArray), .string (⟨#[]⟩ : ByteArray), .string (⟨#[]⟩ : ByteArray), .string (⟨#[]⟩ : ByteArray), .int .i64 0]) ?_ 1 _ rfl; (with_reducible repeat (first | refine blk_drewN ?_ _ | refine blk_drew ?_ | refine blk_alloc ?_ _)); refine blk_put (cs := #[.int .i64 0, .int .i64 0, .int .i64 0, .int .i64 0, .int .i64 0, .string (⟨#[]⟩ : ByteArray), .string (⟨#[]⟩ : ByteArray), .string (⟨#[]⟩ : ByteArray), .string (⟨#[]⟩ : ByteArray), .int .i64 0]) ?_ 0 _ rfl; (with_reducible repeat (first | refine blk_drewN ?_ _ | refine blk_drew ?_ | refine blk_alloc ?_ _)); exact BK282.out) hb); have n1_ := Aside0.mk (below_step (by repeat (first | (with_reducible first | exact HB.out | apply below_alloc | apply pw_below_drewN | apply below_drew1 | refine below_set ?_ GE282.out) | exact HB.out)) hb); clear BK282; clear HB; have BK282 := n0_; have HB := n1_; clear n0_ n1_; (try clear hb); (try clear hb2); (try clear hk); (try clear hi)))
                    go_ret
                    exact ⟨by first | rfl | (simp [errW_none, errW_some] <;> rfl) | (simp [*, errW_none, errW_some] <;> rfl), by repeat (first | (with_reducible first | exact HB.out | apply below_alloc | apply pw_below_drewN | apply below_drew1 | refine below_set ?_ GE282.out) | exact HB.out)⟩
                · rw [if_neg c8] at H
                  exact absurd H (by simp)
              · rw [if_neg c7] at H
                exact absurd H (by simp)
            · rw [if_neg c6] at H
              have c6b0 : decide (x17_2 < (l0.length : Int)) = false := decide_eq_false c6
              clear c6
              replace H := Option.bind_eq_some_iff.mp H
              obtain ⟨t284, A170, H⟩ := H
              replace H : (some (t284 == 0)) = some r := H
              have A17 := Aside0.mk A170
              clear A170
              obtain rfl := Option.some.inj H
              go_wp2_with (first | ((with_reducible refine gate_callee (f := 42) rfl ?_); refine goesL_ (some 30) rfl rfl Tryd.func42 (by kernel_rfl) rfl #[.slice A0 l0.length c0, .int .i64 (wrap64 ((l0.length : Int) - 1))] rfl (by (try simp only [List.map_toArray, List.map_cons, List.map_nil]); first | done | rfl | (simp only [List.length_drop, List.length_take]; rfl)) ?_; (with_reducible refine (tree_Begin.calls k2 _ _ l0 (wrap64 ((l0.length : Int) - 1)) t284 _ ?side1 ?side2 A17.out).mono ?_); (case side1 => repeat (first | exact (Kd.C_below HR0.out HB.out) | (with_reducible refine Kd.C_alloc ?_ _) | (with_reducible refine Kd.C_drewN ?_ _) | (with_reducible refine Kd.C_drew ?_))); (case side2 => exact HC0.out); rintro e w18 ⟨rfl, hb⟩; refine ⟨_, rfl, ?_⟩; have n0_ := Aside0.mk (below_step (by repeat (first | (with_reducible first | exact HB.out | apply below_alloc | apply pw_below_drewN | apply below_drew1) | exact HB.out)) hb); clear HB; have HB := n0_; clear n0_; (try clear hb); (try clear hb2); (try clear hk); (try clear hi)))
              go_ret
              exact ⟨by first | rfl | (simp [errW_none, errW_some] <;> rfl) | (simp [*, errW_none, errW_some] <;> rfl), by repeat (first | (with_reducible first | exact HB.out | apply below_alloc | apply pw_below_drewN | apply below_drew1) | exact HB.out)⟩
end Go.Proofs.YtnogfhhfklkbiaaDoor.H

namespace Go.Proofs.YtnogfhhfklkbiaaDoor.H
open Go.RowKit Go.Proofs.YtnogfhhfklkbiaaDoorW.PrintWords Go.Proofs.YtnogfhhfklkbiaaDoorW.PrintLast Go.Proofs.YtnogfhhfklkbiaaDoorW.PrintMore
attribute [local go_sem] max2_int min2_int max_two min_two max_three min_three max_four min_four
set_option linter.unusedVariables false
set_option linter.unusedSimpArgs false
def tree_there.f (k : Nat) (l0 : List (S45)) (a1 : Int) : Option (Bool) := (tree_Shaped.f k l0 true).bind fun t285 => (if t285 = true then (if a1 ≥ 0 then (some (decide (a1 < (l0.length : Int)))) else (some false)) else ((tree_Shaped.f k l0 false).bind fun t286 => (if t286 = true then (if a1 ≥ 0 then (some (decide (a1 < (l0.length : Int)))) else (some false)) else (some false))))
theorem tree_there.mono : ∀ a0 a1 k, LeO (tree_there.f k a0 a1) (tree_there.f (k + 1) a0 a1) := by
  intro a0 a1 k
  unfold tree_there.f
  repeat' first
      | (with_reducible exact tree_Shaped.mono _ _ _)
      | (with_reducible exact LeO.refl _)
      | (with_reducible exact LeO.none _)
      | (with_reducible refine LeO.ite ?_ ?_)
      | (with_reducible refine LeO.bind ?_ (fun _ => ?_))
      | exact tree_Shaped.mono _ _ _
      | exact LeO.none _
      | refine LeO.ite ?_ ?_
      | refine LeO.bind ?_ (fun _ => ?_)
set_option maxHeartbeats 8000000 in
set_option maxRecDepth 100000 in
theorem tree_there.calls (k : Nat) (A0 : Option Addr) (c0 : Nat) (l0 : List (S45)) (a1 : Int) (r : Bool) (w : World) (hr0 : Kd.C k45 w A0 l0.length l0) (hc0 : l0.length ≤ c0) (h : tree_there.f k l0 a1 = some r) :
    Calls Tryd.prog 38 #[.slice A0 l0.length c0, .int .i64 a1] w fun e w' => e = .returned (.bool r) ∧ Below w.heap.size w w' := by
  have HR0 := Aside0.mk hr0
  have HC0 := Aside0.mk hc0
  clear hr0 hc0
  have HB := Aside0.mk (Below.refl w.heap.size w)
  have H : ((tree_Shaped.f k l0 true).bind fun t285 => (if t285 = true then (if a1 ≥ 0 then (some (decide (a1 < (l0.length : Int)))) else (some false)) else ((tree_Shaped.f k l0 false).bind fun t286 => (if t286 = true then (if a1 ≥ 0 then (some (decide (a1 < (l0.length : Int)))) else (some false)) else (some false))))) = some r := h
  clear h
  replace H := Option.bind_eq_some_iff.mp H
  obtain ⟨t285, A30, H⟩ := H
  replace H : (if t285 = true then (if a1 ≥ 0 then (some (decide (a1 < (l0.length : Int)))) else (some false)) else ((tree_Shaped.f k l0 false).bind fun t286 => (if t286 = true then (if a1 ≥ 0 then (some (decide (a1 < (l0.length : Int)))) else (some false)) else (some false)))) = some r := H
  have A3 := Aside0.mk A30
  clear A30
  by_cases c4 : t285 = true
  · subst c4
    have H1 : (if a1 ≥ 0 then (some (decide (a1 < (l0.length : Int)))) else (some false)) = some r := by rw [if_pos rfl] at H; exact H
    clear H
    have H := H1
    clear H1
    by_cases c5 : a1 ≥ 0
    · rw [if_pos c5] at H
      have c5b0 : decide (0 ≤ a1) = true := decide_eq_true c5
      clear c5
      obtain rfl := Option.some.inj H
      go_enter Tryd.func38, Tryd.ntmps38
      go_wp2_with (first | ((with_reducible refine gate_callee (f := 47) rfl ?_); refine goesL_ (some 6) rfl rfl Tryd.func47 (by kernel_rfl) rfl #[.slice A0 l0.length c0, .bool true] rfl (by (try simp only [List.map_toArray, List.map_cons, List.map_nil]); first | done | rfl | (simp only [List.length_drop, List.length_take]; rfl)) ?_; (with_reducible refine (tree_Shaped.calls k _ _ l0 true true _ ?side1 ?side2 A3.out).mono ?_); (case side1 => repeat (first | exact HR0.out | (with_reducible refine Kd.C_alloc ?_ _) | (with_reducible refine Kd.C_drewN ?_ _) | (with_reducible refine Kd.C_drew ?_))); (case side2 => exact HC0.out); rintro e w6 ⟨rfl, hb⟩; refine ⟨_, rfl, ?_⟩; have n0_ := Aside0.mk (below_step (by repeat (first | (with_reducible first | exact HB.out | apply below_alloc | apply pw_below_drewN | apply below_drew1) | exact HB.out)) hb); clear HB; have HB := n0_; clear n0_; (try clear hb); (try clear hb2); (try clear hk); (try clear hi)))
      go_ret
      exact ⟨by first | rfl | (simp [errW_none, errW_some] <;> rfl) | (simp [*, errW_none, errW_some] <;> rfl), by repeat (first | (with_reducible first | exact HB.out | apply below_alloc | apply pw_below_drewN | apply below_drew1) | exact HB.out)⟩
    · rw [if_neg c5] at H
      have c5b0 : decide (0 ≤ a1) = false := decide_eq_false c5
      clear c5
      obtain rfl := Option.some.inj H
      go_enter Tryd.func38, Tryd.ntmps38
      go_wp2_with (first | ((with_reducible refine gate_callee (f := 47) rfl ?_); refine goesL_ (some 6) rfl rfl Tryd.func47 (by kernel_rfl) rfl #[.slice A0 l0.length c0, .bool true] rfl (by (try simp only [List.map_toArray, List.map_cons, List.map_nil]); first | done | rfl | (simp only [List.length_drop, List.length_take]; rfl)) ?_; (with_reducible refine (tree_Shaped.calls k _ _ l0 true true _ ?side1 ?side2 A3.out).mono ?_); (case side1 => repeat (first | exact HR0.out | (with_reducible refine Kd.C_alloc ?_ _) | (with_reducible refine Kd.C_drewN ?_ _) | (with_reducible refine Kd.C_drew ?_))); (case side2 => exact HC0.out); rintro e w7 ⟨rfl, hb⟩; refine ⟨_, rfl, ?_⟩; have n0_ := Aside0.mk (below_step (by repeat (first | (with_reducible first | exact HB.out | apply below_alloc | apply pw_below_drewN | apply below_drew1) | exact HB.out)) hb); clear HB; have HB := n0_; clear n0_; (try clear hb); (try clear hb2); (try clear hk); (try clear hi)))
      go_ret
      exact ⟨by first | rfl | (simp [errW_none, errW_some] <;> rfl) | (simp [*, errW_none, errW_some] <;> rfl), by repeat (first | (with_reducible first | exact HB.out | apply below_alloc | apply pw_below_drewN | apply below_drew1) | exact HB.out)⟩
  · replace c4 := Bool.eq_false_iff.mpr c4
    subst c4
    have H1 : ((tree_Shaped.f k l0 false).bind fun t286 => (if t286 = true then (if a1 ≥ 0 then (some (decide (a1 < (l0.length : Int)))) else (some false)) else (some false))) = some r := by rw [if_neg (show ¬ (false = true) by decide)] at H; exact H
    clear H
    have H := H1
    clear H1
    replace H := Option.bind_eq_some_iff.mp H
    obtain ⟨t286, A80, H⟩ := H
    replace H : (if t286 = true then (if a1 ≥ 0 then (some (decide (a1 < (l0.length : Int)))) else (some false)) else (some false)) = some r := H
    have A8 := Aside0.mk A80
    clear A80
    by_cases c9 : t286 = true
    · subst c9
      have H1 : (if a1 ≥ 0 then (some (decide (a1 < (l0.length : Int)))) else (some false)) = some r := by rw [if_pos rfl] at H; exact H
      clear H
      have H := H1
      clear H1
      by_cases c10 : a1 ≥ 0
      · rw [if_pos c10] at H
        have c10b0 : decide (0 ≤ a1) = true := decide_eq_true c10
        clear c10
        obtain rfl := Option.some.inj H
        go_enter Tryd.func38, Tryd.ntmps38
        go_wp2_with (first | ((with_reducible refine gate_callee (f := 47) rfl ?_); refine goesL_ (some 6) rfl rfl Tryd.func47 (by kernel_rfl) rfl #[.slice A0 l0.length c0, .bool true] rfl (by (try simp only [List.map_toArray, List.map_cons, List.map_nil]); first | done | rfl | (simp only [List.length_drop, List.length_take]; rfl)) ?_; (with_reducible refine (tree_Shaped.calls k _ _ l0 true false _ ?side1 ?side2 A3.out).mono ?_); (case side1 => repeat (first | exact HR0.out | (with_reducible refine Kd.C_alloc ?_ _) | (with_reducible refine Kd.C_drewN ?_ _) | (with_reducible refine Kd.C_drew ?_))); (case side2 => exact HC0.out); rintro e w11 ⟨rfl, hb⟩; refine ⟨_, rfl, ?_⟩; have n0_ := Aside0.mk (below_step (by repeat (first | (with_reducible first | exact HB.out | apply below_alloc | apply pw_below_drewN | apply below_drew1) | exact HB.out)) hb); clear HB; have HB := n0_; clear n0_; (try clear hb); (try clear hb2); (try clear hk); (try clear hi)) | (go_at_call 47; (with_reducible refine (tree_Shaped.calls k _ _ l0 false true _ ?side1 ?side2 A8.out).mono ?_); (case side1 => repeat (first | exact (Kd.C_below HR0.out HB.out) | (with_reducible refine Kd.C_alloc ?_ _) | (with_reducible refine Kd.C_drewN ?_ _) | (with_reducible refine Kd.C_drew ?_))); (case side2 => exact HC0.out); rintro e w12 ⟨rfl, hb⟩; have n0_ := Aside0.mk (below_step (by repeat (first | (with_reducible first | exact HB.out | apply below_alloc | apply pw_below_drewN | apply below_drew1) | exact HB.out)) hb); clear HB; have HB := n0_; clear n0_; (try clear hb); (try clear hb2); (try clear hk); (try clear hi)))
        go_ret
        exact ⟨by first | rfl | (simp [errW_none, errW_some] <;> rfl) | (simp [*, errW_none, errW_some] <;> rfl), by repeat (first | (with_reducible first | exact HB.out | apply below_alloc | apply pw_below_drewN | apply below_drew1) | exact HB.out)⟩
      · rw [if_neg c10] at H
        have c10b0 : decide (0 ≤ a1) = false := decide_eq_false c10
        clear c10
        obtain rfl := Option.some.inj H
        go_enter Tryd.func38, Tryd.ntmps38
        go_wp2_with (first | ((with_reducible refine gate_callee (f := 47) rfl ?_); refine goesL_ (some 6) rfl rfl Tryd.func47 (by kernel_rfl) rfl #[.slice A0 l0.length c0, .bool true] rfl (by (try simp only [List.map_toArray, List.map_cons, List.map_nil]); first | done | rfl | (simp only [List.length_drop, List.length_take]; rfl)) ?_; (with_reducible refine (tree_Shaped.calls k _ _ l0 true false _ ?side1 ?side2 A3.out).mono ?_); (case side1 => repeat (first | exact HR0.out | (with_reducible refine Kd.C_alloc ?_ _) | (with_reducible refine Kd.C_drewN ?_ _) | (with_reducible refine Kd.C_drew ?_))); (case side2 => exact HC0.out); rintro e w13 ⟨rfl, hb⟩; refine ⟨_, rfl, ?_⟩; have n0_ := Aside0.mk (below_step (by repeat (first | (with_reducible first | exact HB.out | apply below_alloc | apply pw_below_drewN | apply below_drew1) | exact HB.out)) hb); clear HB; have HB := n0_; clear n0_; (try clear hb); (try clear hb2); (try clear hk); (try clear hi)) | (go_at_call 47; (with_reducible refine (tree_Shaped.calls k _ _ l0 false true _ ?side1 ?side2 A8.out).mono ?_); (case side1 => repeat (first | exact (Kd.C_below HR0.out HB.out) | (with_reducible refine Kd.C_alloc ?_ _) | (with_reducible refine Kd.C_drewN ?_ _) | (with_reducible refine Kd.C_drew ?_))); (case side2 => exact HC0.out); rintro e w14 ⟨rfl, hb⟩; have n0_ := Aside0.mk (below_step (by repeat (first | (with_reducible first | exact HB.out | apply below_alloc | apply pw_below_drewN | apply below_drew1) | exact HB.out)) hb); clear HB; have HB := n0_; clear n0_; (try clear hb); (try clear hb2); (try clear hk); (try clear hi)))
        go_ret
        exact ⟨by first | rfl | (simp [errW_none, errW_some] <;> rfl) | (simp [*, errW_none, errW_some] <;> rfl), by repeat (first | (with_reducible first | exact HB.out | apply below_alloc | apply pw_below_drewN | apply below_drew1) | exact HB.out)⟩
    · replace c9 := Bool.eq_false_iff.mpr c9
      subst c9
      have H1 : (some false) = some r := by rw [if_neg (show ¬ (false = true) by decide)] at H; exact H
      clear H
      have H := H1
      clear H1
      obtain rfl := Option.some.inj H
      go_enter Tryd.func38, Tryd.ntmps38
      go_wp2_with (first | ((with_reducible refine gate_callee (f := 47) rfl ?_); refine goesL_ (some 6) rfl rfl Tryd.func47 (by kernel_rfl) rfl #[.slice A0 l0.length c0, .bool true] rfl (by (try simp only [List.map_toArray, List.map_cons, List.map_nil]); first | done | rfl | (simp only [List.length_drop, List.length_take]; rfl)) ?_; (with_reducible refine (tree_Shaped.calls k _ _ l0 true false _ ?side1 ?side2 A3.out).mono ?_); (case side1 => repeat (first | exact HR0.out | (with_reducible refine Kd.C_alloc ?_ _) | (with_reducible refine Kd.C_drewN ?_ _) | (with_reducible refine Kd.C_drew ?_))); (case side2 => exact HC0.out); rintro e w15 ⟨rfl, hb⟩; refine ⟨_, rfl, ?_⟩; have n0_ := Aside0.mk (below_step (by repeat (first | (with_reducible first | exact HB.out | apply below_alloc | apply pw_below_drewN | apply below_drew1) | exact HB.out)) hb); clear HB; have HB := n0_; clear n0_; (try clear hb); (try clear hb2); (try clear hk); (try clear hi)) | (go_at_call 47; (with_reducible refine (tree_Shaped.calls k _ _ l0 false false _ ?side1 ?side2 A8.out).mono ?_); (case side1 => repeat (first | exact (Kd.C_below HR0.out HB.out) | (with_reducible refine Kd.C_alloc ?_ _) | (with_reducible refine Kd.C_drewN ?_ _) | (with_reducible refine Kd.C_drew ?_))); (case side2 => exact HC0.out); rintro e w16 ⟨rfl, hb⟩; have n0_ := Aside0.mk (below_step (by repeat (first | (with_reducible first | exact HB.out | apply below_alloc | apply pw_below_drewN | apply below_drew1) | exact HB.out)) hb); clear HB; have HB := n0_; clear n0_; (try clear hb); (try clear hb2); (try clear hk); (try clear hi)))
      go_ret
      exact ⟨by first | rfl | (simp [errW_none, errW_some] <;> rfl) | (simp [*, errW_none, errW_some] <;> rfl), by repeat (first | (with_reducible first | exact HB.out | apply below_alloc | apply pw_below_drewN | apply below_drew1) | exact HB.out)⟩
end Go.Proofs.YtnogfhhfklkbiaaDoor.H

namespace Go.Proofs.YtnogfhhfklkbiaaDoor.H
open Go.RowKit Go.Proofs.YtnogfhhfklkbiaaDoorW.PrintWords Go.Proofs.YtnogfhhfklkbiaaDoorW.PrintLast Go.Proofs.YtnogfhhfklkbiaaDoorW.PrintMore
attribute [local go_sem] max2_int min2_int max_two min_two max_three min_three max_four min_four
set_option linter.unusedVariables false
set_option linter.unusedSimpArgs false
set_option maxHeartbeats 8000000 in
set_option maxRecDepth 100000 in
theorem clone_calls (ad : Addr) (c0 : Nat) (l0 : List S45) (w : World) (hr0 : Kd.C k45 w (some ad) l0.length l0) (hlim : l0.length < 1256584717458) :
    Calls Tryd.prog 43 #[.slice (some ad) l0.length c0] w fun e w' => ∃ v0_ : Value, e = .returned (v0_) ∧ Kd.R k45 45 w' w.heap.size (fun _ => True) v0_ l0 ∧ Below w.heap.size w w' := by
  have HR0 := Aside0.mk hr0
  have LMc2 := Aside0.mk hlim
  clear hr0 hlim
  have HB := Aside0.mk (Below.refl w.heap.size w)
  have info45 : (Tryd.prog.info? 45).map (fun i => (i.zero, i.size, i.bytes)) = some (some (.agg #[(.int .i64 0), (.int .i64 0), (.int .i64 0), (.int .i64 0), (.int .i64 0), (.string ⟨#[]⟩), (.string ⟨#[]⟩), (.string ⟨#[]⟩), (.string ⟨#[]⟩), (.int .i64 0)]), 10, 112) := by kernel_rfl
  have hnil := fun w => Lib.run_eql_slice_nil (P := Tryd.prog) w 23 45 (some ad) l0.length c0 0 0 Tryd.underlying23
  go_enter Tryd.func43, Tryd.ntmps43
  go_wp2_with (first | ((with_reducible refine gate_dst (N := 5) rfl ?_); refine Kd.R_lit k45 _ 45 ?hg (N := 5) ?hd (xs := ([] : List (S45))) (inner := []) (ok := fun _ => True) (okp := fun _ => True) ?hr ?hp (fun _ hk => hk) trivial (Below.refl _ _) (Nat.le_refl _) (by simp) ?_; (case hd => rfl); (case hg => rfl); (case hr => first | (go_simp; done) | (go_simp; rfl)); (case hp => exact (Reps.none _ _)); intro v296 w3 ho4 hb hg_ hnew_; clear hg_ hnew_; have n0_ := Aside0.mk (Kd.R_lower ho4 (below_size (by repeat (first | (with_reducible first | exact HB.out | apply below_alloc | apply pw_below_drewN | apply below_drew1) | exact HB.out)))); have n1_ := Aside0.mk (below_step (by repeat (first | (with_reducible first | exact HB.out | apply below_alloc | apply pw_below_drewN | apply below_drew1) | exact HB.out)) hb); clear HB; have HO297 := n0_; have HB := n1_; clear n0_ n1_; clear hb ho4) | ((with_reducible refine gate_builtin (b := .append) (xs := #[.tmp 5, .tmp 6]) rfl ?_); at_builtin; refine Kd.R_append_rows k45 (w0 := w) w.heap.size rfl (.tmp 5) (.tmp 6) 23 45 (.agg #[(.int .i64 0), (.int .i64 0), (.int .i64 0), (.int .i64 0), (.int .i64 0), (.string ⟨#[]⟩), (.string ⟨#[]⟩), (.string ⟨#[]⟩), (.string ⟨#[]⟩), (.int .i64 0)]) 112 rfl Tryd.underlying23 info45 rfl (by decide) (by omega) v296 [] l0 _ _ _ (fun _ => True) (fun _ => False) rfl rfl ?aO ?aR (fun _ _ h => h) (fun _ h => h.elim) ?aF ?aB ?aS ?aL ?_; (case aR => repeat (first | exact (Kd.C_below HR0.out HB.out) | (with_reducible refine Kd.C_alloc ?_ _) | (with_reducible refine Kd.C_drewN ?_ _) | (with_reducible refine Kd.C_drew ?_))); (case aB => exact (by repeat (first | (with_reducible first | exact HB.out | apply below_alloc | apply pw_below_drewN | apply below_drew1) | exact HB.out))); (case aF => exact (fun _ _ => trivial)); (case aO => exact (by (with_reducible repeat (first | apply Kd.R_alloc | apply Kd.R_drewN | apply Kd.R_drew)); exact HO297.out)); (case aS => exact (below_size (by repeat (first | (with_reducible first | exact HB.out | apply below_alloc | apply pw_below_drewN | apply below_drew1) | exact HB.out)))); (case aL => have := LMc2.out; simp; omega); intro v299 w5 ho hb hg hat; rw [List.nil_append] at ho; have n0_ := Aside0.mk (hb); have n1_ := Aside0.mk (ho); clear HB; clear HO297; have HB := n0_; have HO300 := n1_; clear n0_ n1_; clear ho hb hg hat))
  go_ret
  exact ⟨_, rfl, by (with_reducible repeat (first | apply Kd.R_alloc | apply Kd.R_drewN | apply Kd.R_drew)); exact HO300.out, by repeat (first | (with_reducible first | exact HB.out | apply below_alloc | apply pw_below_drewN | apply below_drew1) | exact HB.out)⟩
end Go.Proofs.YtnogfhhfklkbiaaDoor.H

namespace Go.Proofs.YtnogfhhfklkbiaaDoor.H
open Go.RowKit Go.Proofs.YtnogfhhfklkbiaaDoorW.PrintWords Go.Proofs.YtnogfhhfklkbiaaDoorW.PrintLast Go.Proofs.YtnogfhhfklkbiaaDoorW.PrintMore
attribute [local go_sem] max2_int min2_int max_two min_two max_three min_three max_four min_four
set_option linter.unusedVariables false
set_option linter.unusedSimpArgs false
def moveN (b : Int) (j : Nat) (x : S45) : S45 := { x with f1 := if 0 < j then wrap64 (x.f1 - b) else x.f1, f2 := if 1 < j then wrap64 (x.f2 - b) else x.f2, f3 := if 2 < j then wrap64 (x.f3 - b) else x.f3 }
def movedKids (b : Int) (x : S45) : S45 := moveN b (kidsN x.f0) x
theorem moveN_zero (b : Int) (x : S45) : moveN b 0 x = x := rfl
def cellList (x : S45) : List Value := [.int .i64 x.f0, .int .i64 x.f1, .int .i64 x.f2, .int .i64 x.f3, .int .i64 x.f4, .string x.f5, .string x.f6, .string x.f7, .string x.f8, .int .i64 x.f9]
theorem move_step (b : Int) (j : Nat) (x : S45) (h : j < 3) : ∃ c, (cellList (moveN b j x))[1 + j]? = some (.int .i64 c) ∧ (cellList (moveN b j x)).take (1 + j) ++ [.int .i64 (wrap64 (c - b))] ++ (cellList (moveN b j x)).drop (1 + j + 1) = cellList (moveN b (j + 1) x) := by
  match j, h with
  | 0, _ => exact ⟨x.f1, rfl, rfl⟩
  | 1, _ => exact ⟨x.f2, rfl, rfl⟩
  | 2, _ => exact ⟨x.f3, rfl, rfl⟩
def tree_Part.f (k : Nat) (l0 : List S45) (a1 : Int) : Option ((List S45) × Int) :=
  (tree_there.f k l0 a1).bind fun t => if t = true then (tree_Begin.f k l0 a1).bind fun b => if 0 ≤ b ∧ b ≤ a1 ∧ a1 < l0.length ∧ l0.length < 1256584717458 then some (((l0.drop b.toNat).take (a1 + 1 - b).toNat).map (movedKids b), 0) else none else some ([], 300)
theorem tree_Part.mono : ∀ a0 a1 k, LeO (tree_Part.f k a0 a1) (tree_Part.f (k + 1) a0 a1) := by
  intro a0 a1 k
  unfold tree_Part.f
  exact LeO.bind (tree_there.mono _ _ k) fun t => LeO.ite (LeO.bind (tree_Begin.mono _ _ k) fun b => LeO.refl _) (LeO.refl _)
theorem part_next (b : Int) (xs : List S45) (i : Nat) (x : S45) (h : xs[i]? = some x) : ((xs.take i).map (movedKids b) ++ xs.drop i).set i (movedKids b x) = (xs.take (i + 1)).map (movedKids b) ++ xs.drop (i + 1) := by
  obtain ⟨hi, rfl⟩ := List.getElem?_eq_some_iff.1 h
  have hl : ((xs.take i).map (movedKids b)).length = i := by simp; omega
  rw [List.set_append_right _ _ (by omega), hl, Nat.sub_self, List.drop_eq_getElem_cons hi, List.set_cons_zero, List.take_succ_eq_append_getElem hi, List.map_append, List.append_assoc]
  rfl
theorem part_at (b : Int) (xs : List S45) (i : Nat) (x : S45) (h : xs[i]? = some x) : ((xs.take i).map (movedKids b) ++ xs.drop i).getD i z45 = x := by
  obtain ⟨hi, rfl⟩ := List.getElem?_eq_some_iff.1 h
  have hl : ((xs.take i).map (movedKids b)).length = i := by simp; omega
  rw [List.getD_eq_getElem?_getD, List.getElem?_append_right (by omega), hl, Nat.sub_self, List.getElem?_drop]
  simp [hi]
set_option maxRecDepth 100000 in
set_option maxHeartbeats 8000000 in
theorem tree_Part.calls (k : Nat) (A0 : Option Addr) (c0 : Nat) (l0 : List (S45)) (a1 : Int) (r1 : List (S45)) (r2 : Int) (w : World) (hr0 : Kd.C k45 w A0 l0.length l0) (hc0 : l0.length ≤ c0) (h : tree_Part.f k l0 a1 = some (r1, r2)) :
    Calls Tryd.prog 16 #[.slice A0 l0.length c0, .int .i64 a1] w fun e w' => ∃ v0_ : Value, e = .returned (.tuple #[v0_, .int .i64 r2]) ∧ Kd.R k45 45 w' w.heap.size (fun _ => True) v0_ r1 ∧ Below w.heap.size w w' := by
  unfold tree_Part.f at h
  replace h := Option.bind_eq_some_iff.mp h
  obtain ⟨t, ht, h⟩ := h
  have HC := Aside0.mk hr0
  have HL := Aside0.mk hc0
  have HT := Aside0.mk ht
  clear hr0 hc0 ht
  cases t with
  | false =>
    simp only [Bool.false_eq_true, if_false] at h
    obtain ⟨rfl, rfl⟩ := Prod.mk.inj (Option.some.inj h)
    clear h
    go_enter Tryd.func16, Tryd.ntmps16
    go_wp2_with (go_at_call 38; (with_reducible refine (tree_there.calls k A0 c0 l0 a1 false _ HC.out HL.out HT.out).mono ?_); rintro e w3 ⟨rfl, hb3⟩; have HB3 := Aside0.mk hb3; clear hb3)
    go_ret2
    exact ⟨_, rfl, Kd.R_nil _ _ _ _ _, HB3.out⟩
  | true =>
    simp only [if_true] at h
    replace h := Option.bind_eq_some_iff.mp h
    obtain ⟨b, hb, h⟩ := h
    have HBG := Aside0.mk hb
    clear hb
    by_cases hc : 0 ≤ b ∧ b ≤ a1 ∧ a1 < l0.length ∧ l0.length < 1256584717458
    · rw [if_pos hc] at h
      obtain ⟨rfl, rfl⟩ := Prod.mk.inj (Option.some.inj h)
      clear h
      obtain ⟨c1, c2, c3, c4⟩ := hc
      obtain ⟨bn, rfl⟩ := Int.eq_ofNat_of_zero_le c1
      obtain ⟨an, rfl⟩ := Int.eq_ofNat_of_zero_le (Int.le_trans c1 c2)
      rw [Int.toNat_natCast, show ((an : Int) + 1 - (bn : Int)).toNat = an + 1 - bn from by omega]
      obtain ⟨ad, rfl, _⟩ := HC.out.2.2 (by omega)
      have hlc := HL.out
      go_enter Tryd.func16, Tryd.ntmps16
      go_wp2_with (first | (go_at_call 38; (with_reducible refine (tree_there.calls k (some ad) c0 l0 an true _ HC.out HL.out HT.out).mono ?_); rintro e w3 ⟨rfl, hb3⟩; have HB3 := Aside0.mk hb3; clear hb3) | (go_at_call 42; (with_reducible refine (tree_Begin.calls k (some ad) c0 l0 an bn _ (Kd.C_below HC.out HB3.out) HL.out HBG.out).mono ?_); rintro e w4 ⟨rfl, hb4⟩; have HB4 := Aside0.mk (HB3.out.trans (hb4.mono HB3.out.size)); clear hb4))
      have hxs : Kd.C k45 w4 (some (ad.add (bn * 10))) ((l0.drop bn).take (an + 1 - bn)).length ((l0.drop bn).take (an + 1 - bn)) := by
        have h1 := Kd.C_drop (m := bn) (c := c0) (Kd.C_below HC.out HB4.out) (by omega) hlc
        rw [if_neg (by omega)] at h1
        exact Kd.C_take h1 (by rw [List.length_drop]; omega)
      have hxl : ((l0.drop bn).take (an + 1 - bn)).length = an + 1 - bn := by rw [List.length_take, List.length_drop]; omega
      obtain ⟨xs, hxsE⟩ : ∃ xs, xs = (l0.drop bn).take (an + 1 - bn) := ⟨_, rfl⟩
      rw [← hxsE] at hxs hxl
      have HXE := Aside0.mk hxsE
      clear hxsE
      have hm0 : an + 1 - bn < 1256584717458 ∧ 0 < an + 1 - bn := by omega
      generalize hmE : an + 1 - bn = m at *
      have HME := Aside0.mk hmE
      clear hmE
      have hcl := clone_calls (ad.add (bn * 10)) (c0 - bn) xs w4 hxs (by omega)
      rw [hxl] at hcl
      have HXL := Aside0.mk hxl
      have hm1 : 0 < xs.length := by omega
      refine hcl.mono ?_
      rintro e w5 ⟨v5, rfl, ho5, hb5⟩
      have HB5 := Aside0.mk (HB4.out.trans (hb5.mono HB4.out.size))
      obtain ⟨g, cap, rfl, hg0, hg1, _⟩ := Kd.R_form ho5 hm1
      rw [hxl]
      have HO5 := Aside0.mk (Kd.R_lower ho5 HB4.out.size)
      rw [hxl] at HO5
      have hgw : w.heap.size ≤ g := by have := HB4.out.size; omega
      clear hcl hxs ho5 hb5 hxl hg0 hg1
      go_wp2_with fail
      go_loopw [26] (fun v26 wr => ∃ (i : Nat), v26 = .int .i64 i ∧ i ≤ m ∧ Aside0 (Kd.R k45 45 wr w.heap.size (fun _ => True) (.slice (some ⟨g, 0, none⟩) m cap) ((xs.take i).map (movedKids bn) ++ xs.drop i)) ∧ Aside0 (Below w.heap.size w wr)) (fun v26 _ => m - (intOf v26).toNat)
      case atStart => exact ⟨0, rfl, Nat.zero_le _, HO5, HB5⟩
      case round =>
        obtain ⟨i, rfl, hi, HO, HB⟩ := hrel
        clear HO5 HB5
        by_cases hlt : i < m
        · have hix : i < xs.length := by have := HXL.out; omega
          obtain ⟨x, hx⟩ : ∃ x, xs[i]? = some x := ⟨_, List.getElem?_eq_getElem hix⟩
          have HX := Aside0.mk hx
          obtain ⟨c, hcl, hM, hcc, hff⟩ := Kd.R_elem HO.out z45 i (by omega) (by omega)
          rw [Int.toNat_natCast, part_at _ _ _ _ hx] at hM
          rw [Int.toNat_natCast] at hcc
          obtain rfl := k45_openM hM
          have d0 : wr.cell? ⟨g, i * 10, none⟩ = some (.int .i64 x.f0) := hcc 0 _ rfl
          clear hcl hM hcc hff hx
          go_wp2_with fail
          refine (kids_calls g (i * 10) x.f0 wr d0).mono ?_
          rintro e w6 ⟨rfl, hb6, hp6⟩
          have HB6 := Aside0.mk (HB.out.trans (hb6.mono HB.out.size))
          have hgl : g < wr.heap.size := World.block_lt_of_cell? wr ⟨g, i * 10, none⟩ d0
          have HO6 := Aside0.mk (show Kd.R k45 45 w6 w.heap.size (fun _ => True) (.slice (some ⟨g, 0, none⟩) m cap) (((xs.take i).map (movedKids bn) ++ xs.drop i).set i (moveN bn 0 x)) by
            have h1 := Kd.R_below HO.out hb6
            rw [moveN_zero]
            have e : ((xs.take i).map (movedKids bn) ++ xs.drop i).set i x = (xs.take i).map (movedKids bn) ++ xs.drop i := by
              have hl : ((xs.take i).map (movedKids bn)).length = i := by simp; omega
              rw [List.set_append_right _ _ (by omega), hl, Nat.sub_self]
              obtain ⟨h2, rfl⟩ := List.getElem?_eq_some_iff.1 HX.out
              rw [List.drop_eq_getElem_cons h2, List.set_cons_zero]
            rw [e]
            exact h1)
          have HP6 := Aside0.mk hp6
          clear hb6 hp6 HO HB d0
          generalize hg1 : wr.heap.size = g1 at *
          have hn3 := kidsN_le x.f0
          generalize hN : kidsN x.f0 = n3 at *
          have HN := Aside0.mk hN
          have HI := Aside0.mk (show ((xs.take i).map (movedKids bn) ++ xs.drop i).length = m by rw [List.length_append, List.length_map, List.length_take, List.length_drop, HXL.out]; omega)
          generalize hY : (xs.take i).map (movedKids bn) ++ xs.drop i = ys at *
          have HY := Aside0.mk hY
          clear hg1 hN hY
          go_wp2_with fail
          go_loopw [34] (fun v34 wr => ∃ (j : Nat), v34 = .int .i64 j ∧ j ≤ n3 ∧ Aside0 (Kd.R k45 45 wr w.heap.size (fun _ => True) (.slice (some ⟨g, 0, none⟩) m cap) (ys.set i (moveN bn j x))) ∧ Aside0 (0 < n3 → wr.heap[g1]? = some (.cells (fieldPtrs g (i * 10 + 1) n3).toArray 74 (0, 0))) ∧ Aside0 (Below w.heap.size w wr)) (fun v34 _ => n3 - (intOf v34).toNat)
          case atStart => exact ⟨0, rfl, Nat.zero_le _, HO6, HP6, HB6⟩
          case round =>
            obtain ⟨j, rfl, hj, HOJ, HPJ, HBJ⟩ := hrel
            clear HO6 HP6 HB6
            by_cases hlj : j < n3
            · have hpA : ptrOf g1 n3 = some ⟨g1, 0, none⟩ := ptrOf_some (by omega)
              rw [hpA]
              obtain ⟨c, hstep, hlist⟩ := move_step bn j x (by omega)
              obtain ⟨cs, hcl, hM, hcc, hff⟩ := Kd.R_elem HOJ.out z45 i (by omega) (by omega)
              have hgetD : (ys.set i (moveN bn j x)).getD i z45 = moveN bn j x := by
                rw [List.getD_eq_getElem?_getD, List.getElem?_set_self (by rw [HI.out]; exact hlt)]
                rfl
              rw [Int.toNat_natCast, hgetD] at hM
              rw [Int.toNat_natCast] at hcc hff
              obtain rfl := k45_openM hM
              have d1 : wr.cell? ⟨g, i * 10 + 1 + j, none⟩ = some (.int .i64 c) := by
                rw [Nat.add_assoc]
                exact hcc (1 + j) _ hstep
              have f1 : wr.frozen? ⟨g, i * 10 + 1 + j, none⟩ = false := by
                rw [Nat.add_assoc]
                exact hff (1 + j)
              have c2 : wr.cell? ⟨g1, j, none⟩ = some (.pointer (some ⟨g, i * 10 + 1 + j, none⟩)) := by
                rw [blk_cell (HPJ.out (by omega)) j, List.getElem?_toArray]
                exact fieldPtrs_get _ _ _ _ hlj
              have hne : g ≠ g1 := by omega
              have HS := Aside0.mk (Kd.R_seg HOJ.out (i := (i : Int)) (by omega) (by omega) (c := cellList (moveN bn j x)) (seg := [.int .i64 (wrap64 (c - bn))]) (j := 1 + j) (x' := moveN bn (j + 1) x) (okp := fun _ => False) rfl
                (by rw [Int.toNat_natCast]; exact hcc) (by show 1 + j + 1 ≤ 10; omega) (by rw [show ([Value.int .i64 (wrap64 (c - bn))]).length = 1 from rfl, hlist]; exact k45_mkM _ _ _ _) (fun _ h => h.elim))
              clear hcl hM hcc hff hgetD hstep hlist HOJ
              go_wp2
              go_roundw
              case rel =>
                refine ⟨j + 1, by go_num, by omega, ⟨?_⟩, ⟨fun _ => ?_⟩, ⟨HBJ.out.setCell hgw _⟩⟩
                · have h1 := HS.out.1
                  rw [Int.toNat_natCast, show i * (k45).sz + (1 + j) = i * 10 + 1 + j from by show i * 10 + (1 + j) = _; omega, List.set_set] at h1
                  exact h1
                · exact blk_far (HPJ.out (by omega)) (by show g1 ≠ g; omega) _
              case measure => simp [intOf]; omega
            · have hjn : j = n3 := by omega
              subst hjn
              go_wp2
              go_roundw
              case rel =>
                refine ⟨i + 1, by go_num, by omega, ⟨?_⟩, HBJ⟩
                have h1 := HOJ.out
                rw [← HN.out, ← HY.out, show moveN bn (kidsN x.f0) x = movedKids bn x from rfl, part_next _ _ _ _ HX.out] at h1
                exact h1
              case measure => simp [intOf]; omega
        · have him : i = m := by omega
          subst him
          have ho := HO.out
          rw [List.take_of_length_le (by rw [HXL.out]; exact Nat.le_refl _), List.drop_eq_nil_of_le (by rw [HXL.out]; exact Nat.le_refl _), List.append_nil] at ho
          have HO2 := Aside0.mk ho
          clear ho HO
          go_wp2
          go_ret2
          exact ⟨.slice (some ⟨g, 0, none⟩) i cap, rfl, (by first | (rw [HME.out, ← HXE.out]; exact HO2.out) | (rw [← HXE.out]; exact HO2.out)), HB.out⟩
    · rw [if_neg hc] at h
      cases h
end Go.Proofs.YtnogfhhfklkbiaaDoor.H

namespace Go.Proofs.YtnogfhhfklkbiaaDoor.H
open Go.RowKit Go.Proofs.YtnogfhhfklkbiaaDoorW.PrintWords Go.Proofs.YtnogfhhfklkbiaaDoorW.PrintLast Go.Proofs.YtnogfhhfklkbiaaDoorW.PrintMore
attribute [local go_sem] max2_int min2_int max_two min_two max_three min_three max_four min_four
set_option linter.unusedVariables false
set_option linter.unusedSimpArgs false
def tree_base.f (a0 : Int) : Option (Bool) := if a0 = 0 then (some true) else (some (a0 == 1))
set_option maxHeartbeats 8000000 in
set_option maxRecDepth 100000 in
theorem tree_base.calls (a0 : Int) (r : Bool) (w : World) (h : tree_base.f a0 = some r) :
    Calls Tryd.prog 69 #[.int .i64 a0] w fun e w' => e = .returned (.bool r) ∧ Drawn0 w w' := by
  have H : (if a0 = 0 then (some true) else (some (a0 == 1))) = some r := h
  clear h
  by_cases c2 : a0 = 0
  · rw [if_pos c2] at H
    have c2b0 : (a0 == 0) = true := beq_iff_eq.mpr c2
    have c2b1 : (a0 != 0) = false := bne_eq_false_iff_eq.mpr c2
    clear c2
    obtain rfl := Option.some.inj H
    go_enter Tryd.func69, Tryd.ntmps69
    go_wp2
    go_ret
    exact ⟨by first | rfl | (simp; done) | (simp [*]; done), by repeat (first | exact Drawn0.refl _ | apply Drawn0.step)⟩
  · rw [if_neg c2] at H
    have c2b0 : (a0 == 0) = false := beq_eq_false_iff_ne.mpr c2
    have c2b1 : (a0 != 0) = true := bne_iff_ne.mpr c2
    obtain rfl := Option.some.inj H
    go_enter Tryd.func69, Tryd.ntmps69
    go_wp2
    go_ret
    exact ⟨by first | rfl | (simp; done) | (simp [*]; done), by repeat (first | exact Drawn0.refl _ | apply Drawn0.step)⟩
end Go.Proofs.YtnogfhhfklkbiaaDoor.H

namespace Go.Proofs.YtnogfhhfklkbiaaDoor.H
open Go.RowKit Go.Proofs.YtnogfhhfklkbiaaDoorW.PrintWords Go.Proofs.YtnogfhhfklkbiaaDoorW.PrintLast Go.Proofs.YtnogfhhfklkbiaaDoorW.PrintMore
attribute [local go_sem] max2_int min2_int max_two min_two max_three min_three max_four min_four
set_option linter.unusedVariables false
set_option linter.unusedSimpArgs false
def tree_OpsMay_1.f (k : Nat) (a0_0 : ByteArray) (a0_1 : Int) (a0_2 : Int) : Option (Bool) := (lex_NameMay.f k a0_0).bind fun t276 => (if t276 = true then ((tree_base.f a0_1).bind fun t277 => (if t277 = true then ((tree_base.f a0_2).bind fun t278 => (some (!t278))) else (some true))) else (some true))
theorem tree_OpsMay_1.mono : ∀ a0 a1 a2 k, LeO (tree_OpsMay_1.f k a0 a1 a2) (tree_OpsMay_1.f (k + 1) a0 a1 a2) := by
  intro a0 a1 a2 k
  unfold tree_OpsMay_1.f
  repeat' first
      | (with_reducible exact lex_NameMay.mono _ _)
      | (with_reducible exact LeO.refl _)
      | (with_reducible exact LeO.none _)
      | (with_reducible refine LeO.ite ?_ ?_)
      | (with_reducible refine LeO.bind ?_ (fun _ => ?_))
      | exact lex_NameMay.mono _ _
      | exact LeO.none _
      | refine LeO.ite ?_ ?_
      | refine LeO.bind ?_ (fun _ => ?_)
set_option maxHeartbeats 8000000 in
set_option maxRecDepth 100000 in
theorem tree_OpsMay_1.calls (k : Nat) (a0_0 : ByteArray) (a0_1 : Int) (a0_2 : Int) (r : Bool) (w : World) (h : tree_OpsMay_1.f k a0_0 a0_1 a0_2 = some r) :
    Calls Tryd.prog 67 #[.agg #[.string a0_0, .int .i64 a0_1, .int .i64 a0_2]] w fun e w' => e = .returned (.bool r) ∧ Below w.heap.size w w' := by
  have hu48 := Tryd.underlying48
  have HB := Aside0.mk (Below.refl w.heap.size w)
  have H : ((lex_NameMay.f k a0_0).bind fun t276 => (if t276 = true then ((tree_base.f a0_1).bind fun t277 => (if t277 = true then ((tree_base.f a0_2).bind fun t278 => (some (!t278))) else (some true))) else (some true))) = some r := h
  clear h
  replace H := Option.bind_eq_some_iff.mp H
  obtain ⟨t276, A20, H⟩ := H
  replace H : (if t276 = true then ((tree_base.f a0_1).bind fun t277 => (if t277 = true then ((tree_base.f a0_2).bind fun t278 => (some (!t278))) else (some true))) else (some true)) = some r := H
  have A2 := Aside0.mk A20
  clear A20
  by_cases c3 : t276 = true
  · subst c3
    have H1 : ((tree_base.f a0_1).bind fun t277 => (if t277 = true then ((tree_base.f a0_2).bind fun t278 => (some (!t278))) else (some true))) = some r := by rw [if_pos rfl] at H; exact H
    clear H
    have H := H1
    clear H1
    replace H := Option.bind_eq_some_iff.mp H
    obtain ⟨t277, A40, H⟩ := H
    replace H : (if t277 = true then ((tree_base.f a0_2).bind fun t278 => (some (!t278))) else (some true)) = some r := H
    have A4 := Aside0.mk A40
    clear A40
    by_cases c5 : t277 = true
    · subst c5
      have H1 : ((tree_base.f a0_2).bind fun t278 => (some (!t278))) = some r := by rw [if_pos rfl] at H; exact H
      clear H
      have H := H1
      clear H1
      replace H := Option.bind_eq_some_iff.mp H
      obtain ⟨t278, A60, H⟩ := H
      replace H : (some (!t278)) = some r := H
      have A6 := Aside0.mk A60
      clear A60
      obtain rfl := Option.some.inj H
      go_enter Tryd.func67, Tryd.ntmps67
      go_wp2_with (first | ((with_reducible refine gate_dst (N := 1) rfl ?_); refine box_event ?hg (N := 1) ?hd (cs := #[.string a0_0, .int .i64 a0_1, .int .i64 a0_2]) (t := 48) ?hr ?_; (case hd => rfl); (case hg => rfl); (case hr => first | (go_simp; done) | (go_simp; rfl)); intro gb275 hg w7 hbox hb; have n0_ := Aside0.mk (below_step (by repeat (first | (with_reducible first | exact HB.out | apply below_alloc | apply pw_below_drewN | apply below_drew1) | exact HB.out)) hb); have n1_ := Aside0.mk (hbox); have n2_ := Aside0.mk ((by rw [hg]; exact (below_size (by repeat (first | (with_reducible first | exact HB.out | apply below_alloc | apply pw_below_drewN | apply below_drew1) | exact HB.out))) : w.heap.size ≤ gb275)); have n3_ := Aside0.mk ((by rw [hg]; exact (below_size (by repeat (first | (with_reducible first | exact HB.out | apply below_alloc | apply pw_below_drewN | apply below_drew1) | exact HB.out))) : w.heap.size ≤ gb275)); clear HB; have HB := n0_; have BK275 := n1_; have GW275 := n2_; have GE275 := n3_; clear n0_ n1_ n2_ n3_; clear hb hbox hg; have hcz8_0 : w7.cell? ⟨gb275, 0, none⟩ = some (.string a0_0) := (blk_cell BK275.out 0).trans rfl; have hcz8_1 : w7.cell? ⟨gb275, 1, none⟩ = some (.int .i64 a0_1) := (blk_cell BK275.out 1).trans rfl; have hcz8_2 : w7.cell? ⟨gb275, 2, none⟩ = some (.int .i64 a0_2) := (blk_cell BK275.out 2).trans rfl; have hfz8_0 := blk_frozen BK275.out 0; have hfz8_1 := blk_frozen BK275.out 1; have hfz8_2 := blk_frozen BK275.out 2) | ((with_reducible refine gate_callee (f := 68) rfl ?_); refine goesL_ (some 5) rfl rfl Tryd.func68 (by kernel_rfl) rfl #[.string a0_0] rfl (by (try simp only [List.map_toArray, List.map_cons, List.map_nil]); first | done | rfl | (simp only [List.length_drop, List.length_take]; rfl)) ?_; (with_reducible refine (lex_NameMay.calls k a0_0 true _ A2.out).mono ?_); rintro e w9 ⟨rfl, hb⟩; refine ⟨_, rfl, ?_⟩; have n0_ := Aside0.mk (blk_below (g := gb275) (o := .cells #[.string a0_0, .int .i64 a0_1, .int .i64 a0_2] 48 (0, 0)) (by (with_reducible repeat (first | refine blk_drewN ?_ _ | refine blk_drew ?_ | refine blk_alloc ?_ _)); exact BK275.out) hb); have n1_ := Aside0.mk (below_step (by repeat (first | (with_reducible first | exact HB.out | apply below_alloc | apply pw_below_drewN | apply below_drew1 | refine below_set ?_ GE275.out) | exact HB.out)) hb); clear BK275; clear HB; have BK275 := n0_; have HB := n1_; clear n0_ n1_; (try clear hb); (try clear hb2); (try clear hk); (try clear hi); have hcz10_0 : w9.cell? ⟨gb275, 0, none⟩ = some (.string a0_0) := (blk_cell BK275.out 0).trans rfl; have hcz10_1 : w9.cell? ⟨gb275, 1, none⟩ = some (.int .i64 a0_1) := (blk_cell BK275.out 1).trans rfl; have hcz10_2 : w9.cell? ⟨gb275, 2, none⟩ = some (.int .i64 a0_2) := (blk_cell BK275.out 2).trans rfl; have hfz10_0 := blk_frozen BK275.out 0; have hfz10_1 := blk_frozen BK275.out 1; have hfz10_2 := blk_frozen BK275.out 2) | (go_at_call 69; (with_reducible refine (tree_base.calls a0_1 true _ A4.out).mono ?_); rintro e w' ⟨rfl, ⟨nd, rfl⟩⟩) | (go_at_call 69; (with_reducible refine (tree_base.calls a0_2 t278 _ A6.out).mono ?_); rintro e w' ⟨rfl, ⟨nd, rfl⟩⟩))
      go_ret
      exact ⟨by first | rfl | (simp [errW_none, errW_some] <;> rfl) | (simp [*, errW_none, errW_some] <;> rfl), by repeat (first | (with_reducible first | exact HB.out | apply below_alloc | apply pw_below_drewN | apply below_drew1 | refine below_set ?_ GE275.out) | exact HB.out)⟩
    · replace c5 := Bool.eq_false_iff.mpr c5
      subst c5
      have H1 : (some true) = some r := by rw [if_neg (show ¬ (false = true) by decide)] at H; exact H
      clear H
      have H := H1
      clear H1
      obtain rfl := Option.some.inj H
      go_enter Tryd.func67, Tryd.ntmps67
      go_wp2_with (first | ((with_reducible refine gate_dst (N := 1) rfl ?_); refine box_event ?hg (N := 1) ?hd (cs := #[.string a0_0, .int .i64 a0_1, .int .i64 a0_2]) (t := 48) ?hr ?_; (case hd => rfl); (case hg => rfl); (case hr => first | (go_simp; done) | (go_simp; rfl)); intro gb275 hg w11 hbox hb; have n0_ := Aside0.mk (below_step (by repeat (first | (with_reducible first | exact HB.out | apply below_alloc | apply pw_below_drewN | apply below_drew1) | exact HB.out)) hb); have n1_ := Aside0.mk (hbox); have n2_ := Aside0.mk ((by rw [hg]; exact (below_size (by repeat (first | (with_reducible first | exact HB.out | apply below_alloc | apply pw_below_drewN | apply below_drew1) | exact HB.out))) : w.heap.size ≤ gb275)); have n3_ := Aside0.mk ((by rw [hg]; exact (below_size (by repeat (first | (with_reducible first | exact HB.out | apply below_alloc | apply pw_below_drewN | apply below_drew1) | exact HB.out))) : w.heap.size ≤ gb275)); clear HB; have HB := n0_; have BK275 := n1_; have GW275 := n2_; have GE275 := n3_; clear n0_ n1_ n2_ n3_; clear hb hbox hg; have hcz12_0 : w11.cell? ⟨gb275, 0, none⟩ = some (.string a0_0) := (blk_cell BK275.out 0).trans rfl; have hcz12_1 : w11.cell? ⟨gb275, 1, none⟩ = some (.int .i64 a0_1) := (blk_cell BK275.out 1).trans rfl; have hcz12_2 : w11.cell? ⟨gb275, 2, none⟩ = some (.int .i64 a0_2) := (blk_cell BK275.out 2).trans rfl; have hfz12_0 := blk_frozen BK275.out 0; have hfz12_1 := blk_frozen BK275.out 1; have hfz12_2 := blk_frozen BK275.out 2) | ((with_reducible refine gate_callee (f := 68) rfl ?_); refine goesL_ (some 5) rfl rfl Tryd.func68 (by kernel_rfl) rfl #[.string a0_0] rfl (by (try simp only [List.map_toArray, List.map_cons, List.map_nil]); first | done | rfl | (simp only [List.length_drop, List.length_take]; rfl)) ?_; (with_reducible refine (lex_NameMay.calls k a0_0 true _ A2.out).mono ?_); rintro e w13 ⟨rfl, hb⟩; refine ⟨_, rfl, ?_⟩; have n0_ := Aside0.mk (blk_below (g := gb275) (o := .cells #[.string a0_0, .int .i64 a0_1, .int .i64 a0_2] 48 (0, 0)) (by (with_reducible repeat (first | refine blk_drewN ?_ _ | refine blk_drew ?_ | refine blk_alloc ?_ _)); exact BK275.out) hb); have n1_ := Aside0.mk (below_step (by repeat (first | (with_reducible first | exact HB.out | apply below_alloc | apply pw_below_drewN | apply below_drew1 | refine below_set ?_ GE275.out) | exact HB.out)) hb); clear BK275; clear HB; have BK275 := n0_; have HB := n1_; clear n0_ n1_; (try clear hb); (try clear hb2); (try clear hk); (try clear hi); have hcz14_0 : w13.cell? ⟨gb275, 0, none⟩ = some (.string a0_0) := (blk_cell BK275.out 0).trans rfl; have hcz14_1 : w13.cell? ⟨gb275, 1, none⟩ = some (.int .i64 a0_1) := (blk_cell BK275.out 1).trans rfl; have hcz14_2 : w13.cell? ⟨gb275, 2, none⟩ = some (.int .i64 a0_2) := (blk_cell BK275.out 2).trans rfl; have hfz14_0 := blk_frozen BK275.out 0; have hfz14_1 := blk_frozen BK275.out 1; have hfz14_2 := blk_frozen BK275.out 2) | (go_at_call 69; (with_reducible refine (tree_base.calls a0_1 false _ A4.out).mono ?_); rintro e w' ⟨rfl, ⟨nd, rfl⟩⟩))
      go_ret
      exact ⟨by first | rfl | (simp [errW_none, errW_some] <;> rfl) | (simp [*, errW_none, errW_some] <;> rfl), by repeat (first | (with_reducible first | exact HB.out | apply below_alloc | apply pw_below_drewN | apply below_drew1 | refine below_set ?_ GE275.out) | exact HB.out)⟩
  · replace c3 := Bool.eq_false_iff.mpr c3
    subst c3
    have H1 : (some true) = some r := by rw [if_neg (show ¬ (false = true) by decide)] at H; exact H
    clear H
    have H := H1
    clear H1
    obtain rfl := Option.some.inj H
    go_enter Tryd.func67, Tryd.ntmps67
    go_wp2_with (first | ((with_reducible refine gate_dst (N := 1) rfl ?_); refine box_event ?hg (N := 1) ?hd (cs := #[.string a0_0, .int .i64 a0_1, .int .i64 a0_2]) (t := 48) ?hr ?_; (case hd => rfl); (case hg => rfl); (case hr => first | (go_simp; done) | (go_simp; rfl)); intro gb275 hg w15 hbox hb; have n0_ := Aside0.mk (below_step (by repeat (first | (with_reducible first | exact HB.out | apply below_alloc | apply pw_below_drewN | apply below_drew1) | exact HB.out)) hb); have n1_ := Aside0.mk (hbox); have n2_ := Aside0.mk ((by rw [hg]; exact (below_size (by repeat (first | (with_reducible first | exact HB.out | apply below_alloc | apply pw_below_drewN | apply below_drew1) | exact HB.out))) : w.heap.size ≤ gb275)); have n3_ := Aside0.mk ((by rw [hg]; exact (below_size (by repeat (first | (with_reducible first | exact HB.out | apply below_alloc | apply pw_below_drewN | apply below_drew1) | exact HB.out))) : w.heap.size ≤ gb275)); clear HB; have HB := n0_; have BK275 := n1_; have GW275 := n2_; have GE275 := n3_; clear n0_ n1_ n2_ n3_; clear hb hbox hg; have hcz16_0 : w15.cell? ⟨gb275, 0, none⟩ = some (.string a0_0) := (blk_cell BK275.out 0).trans rfl; have hcz16_1 : w15.cell? ⟨gb275, 1, none⟩ = some (.int .i64 a0_1) := (blk_cell BK275.out 1).trans rfl; have hcz16_2 : w15.cell? ⟨gb275, 2, none⟩ = some (.int .i64 a0_2) := (blk_cell BK275.out 2).trans rfl; have hfz16_0 := blk_frozen BK275.out 0; have hfz16_1 := blk_frozen BK275.out 1; have hfz16_2 := blk_frozen BK275.out 2) | ((with_reducible refine gate_callee (f := 68) rfl ?_); refine goesL_ (some 5) rfl rfl Tryd.func68 (by kernel_rfl) rfl #[.string a0_0] rfl (by (try simp only [List.map_toArray, List.map_cons, List.map_nil]); first | done | rfl | (simp only [List.length_drop, List.length_take]; rfl)) ?_; (with_reducible refine (lex_NameMay.calls k a0_0 false _ A2.out).mono ?_); rintro e w17 ⟨rfl, hb⟩; refine ⟨_, rfl, ?_⟩; have n0_ := Aside0.mk (blk_below (g := gb275) (o := .cells #[.string a0_0, .int .i64 a0_1, .int .i64 a0_2] 48 (0, 0)) (by (with_reducible repeat (first | refine blk_drewN ?_ _ | refine blk_drew ?_ | refine blk_alloc ?_ _)); exact BK275.out) hb); have n1_ := Aside0.mk (below_step (by repeat (first | (with_reducible first | exact HB.out | apply below_alloc | apply pw_below_drewN | apply below_drew1 | refine below_set ?_ GE275.out) | exact HB.out)) hb); clear BK275; clear HB; have BK275 := n0_; have HB := n1_; clear n0_ n1_; (try clear hb); (try clear hb2); (try clear hk); (try clear hi)))
    go_ret
    exact ⟨by first | rfl | (simp [errW_none, errW_some] <;> rfl) | (simp [*, errW_none, errW_some] <;> rfl), by repeat (first | (with_reducible first | exact HB.out | apply below_alloc | apply pw_below_drewN | apply below_drew1 | refine below_set ?_ GE275.out) | exact HB.out)⟩
end Go.Proofs.YtnogfhhfklkbiaaDoor.H

namespace Go.Proofs.YtnogfhhfklkbiaaDoor.H
open Go.RowKit Go.Proofs.YtnogfhhfklkbiaaDoorW.PrintWords Go.Proofs.YtnogfhhfklkbiaaDoorW.PrintLast Go.Proofs.YtnogfhhfklkbiaaDoorW.PrintMore
attribute [local go_sem] max2_int min2_int max_two min_two max_three min_three max_four min_four
set_option linter.unusedVariables false
set_option linter.unusedSimpArgs false
def goIdx (k : Nat) : List S48 → Nat → Option Int
  | [], _ => some (-1)
  | o :: os, i => (tree_OpsMay_1.f k o.f0 o.f1 o.f2).bind fun b => if b = true then some (i : Int) else goIdx k os (i + 1)
theorem goIdx_mono (k : Nat) : ∀ os i, LeO (goIdx k os i) (goIdx (k + 1) os i)
  | [], i => LeO.refl _
  | o :: os, i => by
    unfold goIdx
    exact LeO.bind (tree_OpsMay_1.mono _ _ _ k) fun b => LeO.ite (LeO.refl _) (goIdx_mono k os _)
theorem hr_dropB {α : Type} {l : List α} {i : Nat} {c : α} (h : l[i]? = some c) : c :: l.drop (i + 1) = l.drop i := by
  obtain ⟨hi, rfl⟩ := List.getElem?_eq_some_iff.1 h
  exact (List.drop_eq_getElem_cons hi).symm
set_option maxRecDepth 100000 in
set_option maxHeartbeats 8000000 in
theorem indexFunc_calls (k : Nat) (A0 : Option Addr) (c0 : Nat) (l0 : List S48) (r : Int) (w : World) (hr0 : Kd.C k48 w A0 l0.length l0) (hc0 : l0.length ≤ c0) (hl : l0.length ≤ 4) (h : goIdx k l0 0 = some r) :
    Calls Tryd.prog 91 #[.slice A0 l0.length c0, .func (.func 67) #[] #[]] w fun e w' => e = .returned (.int .i64 r) ∧ Below w.heap.size w w' := by
  have HC := Aside0.mk hr0
  have H := Aside0.mk h
  clear hr0 h
  go_enter Tryd.func91, Tryd.ntmps91
  go_wp2_with fail
  go_loopw [8] (fun v8 wr => ∃ (i : Nat), v8 = .int .i64 i ∧ i ≤ l0.length ∧ Aside0 (goIdx k (l0.drop i) i = some r) ∧ Aside0 (Below w.heap.size w wr)) (fun v8 _ => l0.length - (intOf v8).toNat)
  case atStart => exact ⟨0, rfl, Nat.zero_le _, H, ⟨Below.refl _ _⟩⟩
  case round =>
    obtain ⟨i, rfl, hi, HG, HB⟩ := hrel
    clear H
    by_cases hlt : i < l0.length
    · have hcr : Kd.C k48 wr A0 l0.length l0 := Kd.C_below HC.out HB.out
      obtain ⟨ad, e157, hx0, hx1, hx2⟩ := at_T48 hcr i (by omega) (by omega)
      cases e157
      have hxx : l0[i]? = some (rd_T48 l0 i) := by
        rw [List.getElem?_eq_getElem hlt, rd_T48, Int.toNat_natCast, List.getD_eq_getElem?_getD, List.getElem?_eq_getElem hlt]
        rfl
      have hg := HG.out
      rw [← hr_dropB hxx, goIdx] at hg
      replace hg := Option.bind_eq_some_iff.mp hg
      obtain ⟨b, hb, hg⟩ := hg
      have HBB := Aside0.mk hb
      have HG2 := Aside0.mk hg
      rw [Int.toNat_natCast] at hx0 hx1 hx2
      generalize rd_T48 l0 i = x at *
      clear hb hg hxx hcr HG
      cases b
      · have hg := HG2.out
        simp only [Bool.false_eq_true, if_false] at hg
        have HG3 := Aside0.mk hg
        clear hg HG2
        go_wp2_with (go_at_call 67; (with_reducible refine (tree_OpsMay_1.calls k x.f0 x.f1 x.f2 false _ HBB.out).mono ?_); rintro e w3 ⟨rfl, hb3⟩; have HB3 := Aside0.mk hb3; clear hb3)
        go_roundw
        case rel => exact ⟨i + 1, by go_num, by omega, HG3, ⟨HB.out.trans (HB3.out.mono HB.out.size)⟩⟩
        case measure => simp [intOf]; omega
      · have hg := HG2.out
        simp only [if_true] at hg
        obtain rfl := Option.some.inj hg
        clear hg HG2
        go_wp2_with (go_at_call 67; (with_reducible refine (tree_OpsMay_1.calls k x.f0 x.f1 x.f2 true _ HBB.out).mono ?_); rintro e w3 ⟨rfl, hb3⟩; have HB3 := Aside0.mk hb3; clear hb3)
        go_ret
        exact ⟨rfl, HB.out.trans (HB3.out.mono HB.out.size)⟩
    · have hg := HG.out
      rw [List.drop_eq_nil_of_le (by omega), goIdx] at hg
      obtain rfl := Option.some.inj hg
      clear hg HG
      go_wp2
      go_ret
      exact ⟨rfl, HB.out⟩
end Go.Proofs.YtnogfhhfklkbiaaDoor.H

namespace Go.Proofs.YtnogfhhfklkbiaaDoor.H
open Go.RowKit Go.Proofs.YtnogfhhfklkbiaaDoorW.PrintWords Go.Proofs.YtnogfhhfklkbiaaDoorW.PrintLast Go.Proofs.YtnogfhhfklkbiaaDoorW.PrintMore
attribute [local go_sem] max2_int min2_int max_two min_two max_three min_three max_four min_four
set_option linter.unusedVariables false
set_option linter.unusedSimpArgs false
def tree_OpsMay.f (k : Nat) (l : List S48) : Option Bool := if l.length ≤ 4 then (goIdx k l 0).bind fun r => some (!decide (r ≥ 0)) else some false
theorem tree_OpsMay.mono : ∀ a0 k, LeO (tree_OpsMay.f k a0) (tree_OpsMay.f (k + 1) a0) := by
  intro a0 k
  unfold tree_OpsMay.f
  exact LeO.ite (LeO.bind (goIdx_mono k _ _) fun _ => LeO.refl _) (LeO.refl _)
set_option maxRecDepth 100000 in
set_option maxHeartbeats 8000000 in
theorem containsFunc_calls (k : Nat) (A0 : Option Addr) (c0 : Nat) (l0 : List S48) (r : Int) (w : World) (hr0 : Kd.C k48 w A0 l0.length l0) (hc0 : l0.length ≤ c0) (hl : l0.length ≤ 4) (h : goIdx k l0 0 = some r) :
    Calls Tryd.prog 70 #[.slice A0 l0.length c0, .func (.func 67) #[] #[]] w fun e w' => e = .returned (.bool (decide (0 ≤ r))) ∧ Below w.heap.size w w' := by
  have C := Aside0.mk (indexFunc_calls k A0 c0 l0 r w hr0 hc0 hl h)
  clear hr0 hc0 h
  go_enter Tryd.func70, Tryd.ntmps70
  go_wp2_with (go_at_call 91; refine C.out.mono ?_; rintro e w3 ⟨rfl, hb3⟩; have HB3 := Aside0.mk hb3; clear hb3)
  go_ret
  exact ⟨rfl, HB3.out⟩
set_option maxRecDepth 100000 in
set_option maxHeartbeats 8000000 in
theorem tree_OpsMay.calls (k : Nat) (A0 : Option Addr) (c0 : Nat) (l0 : List (S48)) (r : Bool) (w : World) (hr0 : Kd.C k48 w A0 l0.length l0) (hc0 : l0.length ≤ c0) (h : tree_OpsMay.f k l0 = some r) :
    Calls Tryd.prog 46 #[.slice A0 l0.length c0] w fun e w' => e = .returned (.bool r) ∧ Below w.heap.size w w' := by
  unfold tree_OpsMay.f at h
  by_cases hl : l0.length ≤ 4
  · rw [if_pos hl] at h
    replace h := Option.bind_eq_some_iff.mp h
    obtain ⟨q, hq, h⟩ := h
    obtain rfl := Option.some.inj h
    have C := Aside0.mk (containsFunc_calls k A0 c0 l0 q w hr0 hc0 hl hq)
    have b1 : decide ((l0.length : Int) ≤ 4) = true := decide_eq_true (by omega)
    clear hr0 hc0 hq h
    go_enter Tryd.func46, Tryd.ntmps46
    go_wp2_with (go_at_call 70; refine C.out.mono ?_; rintro e w3 ⟨rfl, hb3⟩; have HB3 := Aside0.mk hb3; clear hb3)
    go_ret
    exact ⟨by first | rfl | (simp; done), HB3.out⟩
  · rw [if_neg hl] at h
    obtain rfl := Option.some.inj h
    have b1 : decide ((l0.length : Int) ≤ 4) = false := decide_eq_false (by omega)
    clear hr0 hc0 h
    go_enter Tryd.func46, Tryd.ntmps46
    go_wp2
    go_ret
    exact ⟨by first | rfl | (simp; done), Below.refl _ _⟩
end Go.Proofs.YtnogfhhfklkbiaaDoor.H
