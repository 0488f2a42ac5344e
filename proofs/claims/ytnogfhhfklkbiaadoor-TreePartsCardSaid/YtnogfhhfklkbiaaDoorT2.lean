/- Several texts in one: contracts of functions of the program, and what they lean on. In part written by a program of this session over the kit's print, in part by hand. -/
import Derived.Test.YtnogfhhfklkbiaaDoorT0
import Derived.ChangeAlike
import Derived.RegionTactic
import Derived.Test.YtnogfhhfklkbiaaDoorT1
import Derived.Lib.SliceRun
namespace Go.Proofs.YtnogfhhfklkbiaaDoor.H
open Go.RowKit Go.Proofs.YtnogfhhfklkbiaaDoorW.PrintWords Go.Proofs.YtnogfhhfklkbiaaDoorW.PrintLast Go.Proofs.YtnogfhhfklkbiaaDoorW.PrintMore
attribute [local go_sem] max2_int min2_int max_two min_two max_three min_three max_four min_four   -- for this text's walks alone
set_option linter.unusedVariables false
set_option linter.unusedSimpArgs false

/-! ### tree_most: function 92 -/
def tree_most.f (a0 : Int) : Option (Int) := if a0 = 1 then (some 1073741823) else (if a0 = 2 then (some 1) else (if a0 = 8 then (some 5) else (some (-1))))
set_option maxHeartbeats 8000000 in
set_option maxRecDepth 100000 in
theorem tree_most.calls (a0 : Int) (r : Int) (w : World) (h : tree_most.f a0 = some r) :
    Calls Tryd.prog 92 #[.int .i64 a0] w fun e w' => e = .returned (.int .i64 r) ∧ Drawn0 w w' := by
  have H : (if a0 = 1 then (some 1073741823) else (if a0 = 2 then (some 1) else (if a0 = 8 then (some 5) else (some (-1))))) = some r := h
  clear h
  by_cases c2 : a0 = 1
  · rw [if_pos c2] at H
    have c2b0 : (a0 == 1) = true := beq_iff_eq.mpr c2
    have c2b1 : (a0 != 1) = false := bne_eq_false_iff_eq.mpr c2
    clear c2
    obtain rfl := Option.some.inj H
    go_enter Tryd.func92, Tryd.ntmps92
    go_wp2
    go_ret
    exact ⟨by first | rfl | (simp; done) | (simp [*]; done), by repeat (first | exact Drawn0.refl _ | apply Drawn0.step)⟩
  · rw [if_neg c2] at H
    have c2b0 : (a0 == 1) = false := beq_eq_false_iff_ne.mpr c2
    have c2b1 : (a0 != 1) = true := bne_iff_ne.mpr c2
    by_cases c3 : a0 = 2
    · rw [if_pos c3] at H
      have c3b0 : (a0 == 2) = true := beq_iff_eq.mpr c3
      have c3b1 : (a0 != 2) = false := bne_eq_false_iff_eq.mpr c3
      clear c3
      obtain rfl := Option.some.inj H
      go_enter Tryd.func92, Tryd.ntmps92
      go_wp2
      go_ret
      exact ⟨by first | rfl | (simp; done) | (simp [*]; done), by repeat (first | exact Drawn0.refl _ | apply Drawn0.step)⟩
    · rw [if_neg c3] at H
      have c3b0 : (a0 == 2) = false := beq_eq_false_iff_ne.mpr c3
      have c3b1 : (a0 != 2) = true := bne_iff_ne.mpr c3
      by_cases c4 : a0 = 8
      · rw [if_pos c4] at H
        have c4b0 : (a0 == 8) = true := beq_iff_eq.mpr c4
        have c4b1 : (a0 != 8) = false := bne_eq_false_iff_eq.mpr c4
        clear c4
        obtain rfl := Option.some.inj H
        go_enter Tryd.func92, Tryd.ntmps92
        go_wp2
        go_ret
        exact ⟨by first | rfl | (simp; done) | (simp [*]; done), by repeat (first | exact Drawn0.refl _ | apply Drawn0.step)⟩
      · rw [if_neg c4] at H
        have c4b0 : (a0 == 8) = false := beq_eq_false_iff_ne.mpr c4
        have c4b1 : (a0 != 8) = true := bne_iff_ne.mpr c4
        obtain rfl := Option.some.inj H
        go_enter Tryd.func92, Tryd.ntmps92
        go_wp2
        go_ret
        exact ⟨by first | rfl | (simp; done) | (simp [*]; done), by repeat (first | exact Drawn0.refl _ | apply Drawn0.step)⟩

end Go.Proofs.YtnogfhhfklkbiaaDoor.H

namespace Go.Proofs.YtnogfhhfklkbiaaDoor.H
open Go.RowKit Go.Proofs.YtnogfhhfklkbiaaDoorW.PrintWords Go.Proofs.YtnogfhhfklkbiaaDoorW.PrintLast Go.Proofs.YtnogfhhfklkbiaaDoorW.PrintMore
attribute [local go_sem] max2_int min2_int max_two min_two max_three min_three max_four min_four   -- for this text's walks alone
set_option linter.unusedVariables false
set_option linter.unusedSimpArgs false

/-! ### tree_names: function 93 -/
-- import Derived.RegionTactic
-- import Derived.ChangeAlike
/-- Where a node of a kind has its names. -/
def nameOffs (kind : Int) : List Nat := if kind = 0 ∨ kind = 9 then [5] else if kind = 3 ∨ kind = 5 then [6] else if kind = 6 then [6, 7] else if kind = 10 then [5, 6, 7, 8] else []
def namePtrs (b : Nat) (l : List Nat) : List Value := l.map fun j => .pointer (some ⟨b, j, none⟩)
def NamesPost (b : Nat) (l : List Nat) (w : World) (e : Ending) (w' : World) : Prop :=
  e = .returned (.slice (ptrOf w.heap.size l.length) l.length l.length) ∧ Below w.heap.size w w' ∧ (0 < l.length → w'.heap[w.heap.size]? = some (.cells (namePtrs b l).toArray 120 (0, 0)))
set_option maxRecDepth 100000 in
set_option maxHeartbeats 8000000 in
theorem names_calls (b : Nat) (kind : Int) (w : World) (h : w.cell? ⟨b, 0, none⟩ = some (.int .i64 kind)) :
    Calls Tryd.prog 93 #[.pointer (some ⟨b, 0, none⟩)] w (NamesPost b (nameOffs kind) w) := by
  by_cases c0 : kind = 0
  · subst c0
    go_enter Tryd.func93, Tryd.ntmps93
    go_wp2
    go_ret
    exact ⟨rfl, (Below.refl _ _).alloc (Nat.le_refl _) _, fun _ => (heap_alloc_new w _).trans rfl⟩
  · by_cases c9 : kind = 9
    · subst c9
      go_enter Tryd.func93, Tryd.ntmps93
      go_wp2
      go_ret
      exact ⟨rfl, (Below.refl _ _).alloc (Nat.le_refl _) _, fun _ => (heap_alloc_new w _).trans rfl⟩
    · by_cases c3 : kind = 3
      · subst c3
        go_enter Tryd.func93, Tryd.ntmps93
        go_wp2
        go_ret
        exact ⟨rfl, (Below.refl _ _).alloc (Nat.le_refl _) _, fun _ => (heap_alloc_new w _).trans rfl⟩
      · by_cases c5 : kind = 5
        · subst c5
          go_enter Tryd.func93, Tryd.ntmps93
          go_wp2
          go_ret
          exact ⟨rfl, (Below.refl _ _).alloc (Nat.le_refl _) _, fun _ => (heap_alloc_new w _).trans rfl⟩
        · by_cases c6 : kind = 6
          · subst c6
            go_enter Tryd.func93, Tryd.ntmps93
            go_wp2
            go_region
            all_goals go_wp2
            all_goals go_ret
            all_goals exact ⟨rfl, below_drew ((Below.refl _ _).alloc (Nat.le_refl _) _), fun _ => (heap_alloc_new w _).trans rfl⟩
          · by_cases c10 : kind = 10
            · subst c10
              go_enter Tryd.func93, Tryd.ntmps93
              go_wp2
              go_region
              all_goals go_wp2
              all_goals go_ret
              all_goals exact ⟨rfl, below_drew ((Below.refl _ _).alloc (Nat.le_refl _) _), fun _ => (heap_alloc_new w _).trans rfl⟩
            · have b0 : (kind == 0) = false := beq_eq_false_iff_ne.mpr c0
              have b9 : (kind == 9) = false := beq_eq_false_iff_ne.mpr c9
              have b3 : (kind == 3) = false := beq_eq_false_iff_ne.mpr c3
              have b5 : (kind == 5) = false := beq_eq_false_iff_ne.mpr c5
              have b6 : (kind == 6) = false := beq_eq_false_iff_ne.mpr c6
              have b10 : (kind == 10) = false := beq_eq_false_iff_ne.mpr c10
              have e : nameOffs kind = [] := by
                unfold nameOffs
                rw [if_neg (by omega), if_neg (by omega), if_neg c6, if_neg c10]
              rw [e]
              clear e c0 c9 c3 c5 c6 c10
              go_enter Tryd.func93, Tryd.ntmps93
              go_wp2
              go_ret
              exact ⟨rfl, Below.refl _ _, fun h => by simp at h⟩


end Go.Proofs.YtnogfhhfklkbiaaDoor.H

namespace Go.Proofs.YtnogfhhfklkbiaaDoor.H
open Go.RowKit Go.Proofs.YtnogfhhfklkbiaaDoorW.PrintWords Go.Proofs.YtnogfhhfklkbiaaDoorW.PrintLast Go.Proofs.YtnogfhhfklkbiaaDoorW.PrintMore
attribute [local go_sem] max2_int min2_int max_two min_two max_three min_three max_four min_four   -- for this text's walks alone
set_option linter.unusedVariables false
set_option linter.unusedSimpArgs false

/-! ### tree_Numbered: function 94 -/
def tree_Numbered.f (a0 : Int) : Option (Bool) := if a0 = 0 then (some true) else (if a0 = 9 then (some true) else (some (a0 == 10)))
set_option maxHeartbeats 8000000 in
set_option maxRecDepth 100000 in
theorem tree_Numbered.calls (a0 : Int) (r : Bool) (w : World) (h : tree_Numbered.f a0 = some r) :
    Calls Tryd.prog 94 #[.int .i64 a0] w fun e w' => e = .returned (.bool r) ∧ Drawn0 w w' := by
  have H : (if a0 = 0 then (some true) else (if a0 = 9 then (some true) else (some (a0 == 10)))) = some r := h
  clear h
  by_cases c2 : a0 = 0
  · rw [if_pos c2] at H
    have c2b0 : (a0 == 0) = true := beq_iff_eq.mpr c2
    have c2b1 : (a0 != 0) = false := bne_eq_false_iff_eq.mpr c2
    clear c2
    obtain rfl := Option.some.inj H
    go_enter Tryd.func94, Tryd.ntmps94
    go_wp2
    go_ret
    exact ⟨by first | rfl | (simp; done) | (simp [*]; done), by repeat (first | exact Drawn0.refl _ | apply Drawn0.step)⟩
  · rw [if_neg c2] at H
    have c2b0 : (a0 == 0) = false := beq_eq_false_iff_ne.mpr c2
    have c2b1 : (a0 != 0) = true := bne_iff_ne.mpr c2
    by_cases c3 : a0 = 9
    · rw [if_pos c3] at H
      have c3b0 : (a0 == 9) = true := beq_iff_eq.mpr c3
      have c3b1 : (a0 != 9) = false := bne_eq_false_iff_eq.mpr c3
      clear c3
      obtain rfl := Option.some.inj H
      go_enter Tryd.func94, Tryd.ntmps94
      go_wp2
      go_ret
      exact ⟨by first | rfl | (simp; done) | (simp [*]; done), by repeat (first | exact Drawn0.refl _ | apply Drawn0.step)⟩
    · rw [if_neg c3] at H
      have c3b0 : (a0 == 9) = false := beq_eq_false_iff_ne.mpr c3
      have c3b1 : (a0 != 9) = true := bne_iff_ne.mpr c3
      obtain rfl := Option.some.inj H
      go_enter Tryd.func94, Tryd.ntmps94
      go_wp2
      go_ret
      exact ⟨by first | rfl | (simp; done) | (simp [*]; done), by repeat (first | exact Drawn0.refl _ | apply Drawn0.step)⟩

end Go.Proofs.YtnogfhhfklkbiaaDoor.H

namespace Go.Proofs.YtnogfhhfklkbiaaDoor.H
open Go.RowKit Go.Proofs.YtnogfhhfklkbiaaDoorW.PrintWords Go.Proofs.YtnogfhhfklkbiaaDoorW.PrintLast Go.Proofs.YtnogfhhfklkbiaaDoorW.PrintMore
attribute [local go_sem] max2_int min2_int max_two min_two max_three min_three max_four min_four   -- for this text's walks alone
set_option linter.unusedVariables false
set_option linter.unusedSimpArgs false

attribute [local go_sem high] eqA45
/-! ### tree_may: function 71 -/
-- rounds -- making
-- eqA45
/-- A node's names. -/
def namesOf (x : S45) : List ByteArray := if x.f0 = 0 ∨ x.f0 = 9 then [x.f5] else if x.f0 = 3 ∨ x.f0 = 5 then [x.f6] else if x.f0 = 6 then [x.f6, x.f7] else if x.f0 = 10 then [x.f5, x.f6, x.f7, x.f8] else []
def noNames (x : S45) : S45 := if x.f0 = 0 ∨ x.f0 = 9 then { x with f5 := ⟨#[]⟩ } else if x.f0 = 3 ∨ x.f0 = 5 then { x with f6 := ⟨#[]⟩ } else if x.f0 = 6 then { x with f6 := ⟨#[]⟩, f7 := ⟨#[]⟩ } else if x.f0 = 10 then { x with f5 := ⟨#[]⟩, f6 := ⟨#[]⟩, f7 := ⟨#[]⟩, f8 := ⟨#[]⟩ } else x
def noKids (x : S45) : S45 := match kidsN x.f0 with
  | 0 => x
  | 1 => { x with f1 := 0 }
  | 2 => { x with f1 := 0, f2 := 0 }
  | _ => { x with f1 := 0, f2 := 0, f3 := 0 }
def noNum (x : S45) : S45 := { x with f4 := 0 }
/-- Nothing but the kind and the place is left. -/
def bareNode (x : S45) : Bool := x.f1 == 0 && (x.f2 == 0 && (x.f3 == 0 && (x.f4 == 0 && (x.f5.toList.isEmpty && (x.f6.toList.isEmpty && (x.f7.toList.isEmpty && x.f8.toList.isEmpty))))))
def goN (k : Nat) : List ByteArray → Option Bool
  | [] => some true
  | s :: ss => (lex_NameMay.f k s).bind fun b => if b = true then goN k ss else some false
def tree_may.f (k : Nat) (a0_0 a0_1 a0_2 a0_3 a0_4 : Int) (a0_5 a0_6 a0_7 a0_8 : ByteArray) (a0_9 : Int) (a1 : Bool) : Option Bool :=
  if a0_0 < 0 then some false else if a0_0 > 10 then some false else if a0_9 < 0 then some false else if a0_9 > 4096 then some false else
  (tree_most.f a0_0).bind fun n => if 0 ≤ n ∧ (a0_4 < 0 ∨ n < a0_4) then some false else
    (if a1 = true then goN k (namesOf ⟨a0_0, a0_1, a0_2, a0_3, a0_4, a0_5, a0_6, a0_7, a0_8, a0_9⟩) else some true).bind fun ok => if ok = true then
      (let y := noKids (if a1 = true then noNames ⟨a0_0, a0_1, a0_2, a0_3, a0_4, a0_5, a0_6, a0_7, a0_8, a0_9⟩ else ⟨a0_0, a0_1, a0_2, a0_3, a0_4, a0_5, a0_6, a0_7, a0_8, a0_9⟩)
       some (bareNode (if 0 ≤ n ∨ (a1 = false ∧ (a0_0 = 0 ∨ a0_0 = 9 ∨ a0_0 = 10)) then noNum y else y))) else some false
theorem goN_mono (k : Nat) : ∀ ss, LeO (goN k ss) (goN (k + 1) ss)
  | [] => LeO.refl _
  | s :: ss => by
    unfold goN
    exact LeO.bind (lex_NameMay.mono s k) fun b => LeO.ite (goN_mono k ss) (LeO.refl _)
theorem tree_may.mono : ∀ a0 a1 a2 a3 a4 a5 a6 a7 a8 a9 a10 k, LeO (tree_may.f k a0 a1 a2 a3 a4 a5 a6 a7 a8 a9 a10) (tree_may.f (k + 1) a0 a1 a2 a3 a4 a5 a6 a7 a8 a9 a10) := by
  intro a0 a1 a2 a3 a4 a5 a6 a7 a8 a9 a10 k
  unfold tree_may.f
  refine LeO.ite (LeO.refl _) (LeO.ite (LeO.refl _) (LeO.ite (LeO.refl _) (LeO.ite (LeO.refl _) (LeO.bind (LeO.refl _) fun n => LeO.ite (LeO.refl _) (LeO.bind (LeO.ite (goN_mono k _) (LeO.refl _)) fun ok => LeO.refl _)))))
/-- A node's cells. -/
def cellsOf (x : S45) : Array Value := #[.int .i64 x.f0, .int .i64 x.f1, .int .i64 x.f2, .int .i64 x.f3, .int .i64 x.f4, .string x.f5, .string x.f6, .string x.f7, .string x.f8, .int .i64 x.f9]
def clr (v : Value) (cs : Array Value) (l : List Nat) : Array Value := l.foldl (fun c p => c.setIfInBounds p v) cs
theorem clr_snoc (v : Value) (cs : Array Value) (l : List Nat) (i p : Nat) (h : l[i]? = some p) : (clr v cs (l.take i)).setIfInBounds p v = clr v cs (l.take (i + 1)) := by
  obtain ⟨hi, rfl⟩ := List.getElem?_eq_some_iff.1 h
  unfold clr
  rw [List.take_succ_eq_append_getElem hi, List.foldl_append]
  rfl
theorem clr_names (x : S45) : clr (.string ⟨#[]⟩) (cellsOf x) (nameOffs x.f0) = cellsOf (noNames x) := by
  unfold nameOffs noNames
  repeat' split
  all_goals rfl
theorem noNames_kind (x : S45) : (noNames x).f0 = x.f0 := by
  unfold noNames
  repeat' split
  all_goals rfl
theorem clr_kids (x : S45) : clr (.int .i64 0) (cellsOf x) ((List.range (kidsN x.f0)).map (0 + 1 + ·)) = cellsOf (noKids x) := by
  have h := kidsN_le x.f0
  unfold noKids
  match hk : kidsN x.f0, h with
  | 0, _ => rfl
  | 1, _ => rfl
  | 2, _ => rfl
  | 3, _ => rfl
theorem noKids_kind (x : S45) : (noKids x).f0 = x.f0 := by
  unfold noKids
  split <;> rfl
theorem names_len (x : S45) : (namesOf x).length = (nameOffs x.f0).length := by
  unfold namesOf nameOffs
  repeat' split
  all_goals rfl
/-- What stands at the i-th name's place, the names ahead of it cleared. -/
theorem names_at (x : S45) (i p : Nat) (hp : (nameOffs x.f0)[i]? = some p) : ∃ s, (namesOf x)[i]? = some s ∧ (clr (.string ⟨#[]⟩) (cellsOf x) ((nameOffs x.f0).take i))[p]? = some (.string s) := by
  unfold nameOffs namesOf at *
  by_cases c1 : x.f0 = 0 ∨ x.f0 = 9
  · rw [if_pos c1] at hp ⊢
    rw [if_pos c1]
    match i, hp with
    | 0, hp => simp at hp; subst hp; exact ⟨_, rfl, rfl⟩
    | i + 1, hp => simp at hp
  · rw [if_neg c1] at hp ⊢
    rw [if_neg c1]
    by_cases c2 : x.f0 = 3 ∨ x.f0 = 5
    · rw [if_pos c2] at hp ⊢
      rw [if_pos c2]
      match i, hp with
      | 0, hp => simp at hp; subst hp; exact ⟨_, rfl, rfl⟩
      | i + 1, hp => simp at hp
    · rw [if_neg c2] at hp ⊢
      rw [if_neg c2]
      by_cases c3 : x.f0 = 6
      · rw [if_pos c3] at hp ⊢
        rw [if_pos c3]
        match i, hp with
        | 0, hp => simp at hp; subst hp; exact ⟨_, rfl, rfl⟩
        | 1, hp => simp at hp; subst hp; exact ⟨_, rfl, rfl⟩
        | i + 2, hp => simp at hp
      · rw [if_neg c3] at hp ⊢
        rw [if_neg c3]
        by_cases c4 : x.f0 = 10
        · rw [if_pos c4] at hp ⊢
          rw [if_pos c4]
          match i, hp with
          | 0, hp => simp at hp; subst hp; exact ⟨_, rfl, rfl⟩
          | 1, hp => simp at hp; subst hp; exact ⟨_, rfl, rfl⟩
          | 2, hp => simp at hp; subst hp; exact ⟨_, rfl, rfl⟩
          | 3, hp => simp at hp; subst hp; exact ⟨_, rfl, rfl⟩
          | i + 4, hp => simp at hp
        · rw [if_neg c4] at hp
          simp at hp
theorem nameOffs_lt (kind : Int) (i p : Nat) (h : (nameOffs kind)[i]? = some p) : 1 ≤ p ∧ p < 10 := by
  have hm := List.mem_of_getElem? h
  unfold nameOffs at hm
  repeat' split at hm
  all_goals simp at hm
  all_goals omega
theorem clr_size (v : Value) (cs : Array Value) (l : List Nat) : (clr v cs l).size = cs.size := by
  unfold clr
  induction l generalizing cs with
  | nil => rfl
  | cons p l ih => rw [List.foldl_cons, ih]; simp
theorem kidPtrs_get (b i n : Nat) (h : i < n) : ((List.range n).map (0 + 1 + ·))[i]? = some (0 + 1 + i) := by simp [h]
/-- The tail of the text: the children's fields, the number, the comparison. -/
def MayTail (y : S45) (num : Bool) : Bool := bareNode (if num = true then noNum (noKids y) else noKids y)
set_option maxRecDepth 100000 in
set_option maxHeartbeats 8000000 in
theorem tree_may.calls (k : Nat) (a0_0 a0_1 a0_2 a0_3 a0_4 : Int) (a0_5 a0_6 a0_7 a0_8 : ByteArray) (a0_9 : Int) (a1 : Bool) (r : Bool) (w : World) (h : tree_may.f k a0_0 a0_1 a0_2 a0_3 a0_4 a0_5 a0_6 a0_7 a0_8 a0_9 a1 = some r) :
    Calls Tryd.prog 71 #[.agg #[.int .i64 a0_0, .int .i64 a0_1, .int .i64 a0_2, .int .i64 a0_3, .int .i64 a0_4, .string a0_5, .string a0_6, .string a0_7, .string a0_8, .int .i64 a0_9], .bool a1] w fun e w' => e = .returned (.bool r) ∧ Below w.heap.size w w' := by
  unfold tree_may.f at h
  by_cases c1 : a0_0 < 0
  · rw [if_pos c1] at h
    obtain rfl := Option.some.inj h
    have b1 : decide (a0_0 < 0) = true := decide_eq_true c1
    clear h c1
    go_enter Tryd.func71, Tryd.ntmps71
    go_wp2
    go_ret
    exact ⟨rfl, (Below.refl _ _).alloc (Nat.le_refl _) _⟩
  · rw [if_neg c1] at h
    have b1 : decide (a0_0 < 0) = false := decide_eq_false c1
    by_cases c2 : a0_0 > 10
    · rw [if_pos c2] at h
      obtain rfl := Option.some.inj h
      have b2 : decide (10 < a0_0) = true := decide_eq_true c2
      clear h c1 c2
      go_enter Tryd.func71, Tryd.ntmps71
      go_wp2
      go_ret
      exact ⟨rfl, (Below.refl _ _).alloc (Nat.le_refl _) _⟩
    · rw [if_neg c2] at h
      have b2 : decide (10 < a0_0) = false := decide_eq_false c2
      by_cases c3 : a0_9 < 0
      · rw [if_pos c3] at h
        obtain rfl := Option.some.inj h
        have b3 : decide (a0_9 < 0) = true := decide_eq_true c3
        clear h c1 c2 c3
        go_enter Tryd.func71, Tryd.ntmps71
        go_wp2
        go_ret
        exact ⟨rfl, (Below.refl _ _).alloc (Nat.le_refl _) _⟩
      · rw [if_neg c3] at h
        have b3 : decide (a0_9 < 0) = false := decide_eq_false c3
        by_cases c4 : a0_9 > 4096
        · rw [if_pos c4] at h
          obtain rfl := Option.some.inj h
          have b4 : decide (4096 < a0_9) = true := decide_eq_true c4
          clear h c1 c2 c3 c4
          go_enter Tryd.func71, Tryd.ntmps71
          go_wp2
          go_ret
          exact ⟨rfl, (Below.refl _ _).alloc (Nat.le_refl _) _⟩
        · rw [if_neg c4] at h
          have b4 : decide (4096 < a0_9) = false := decide_eq_false c4
          clear c1 c2 c3 c4
          replace h := Option.bind_eq_some_iff.mp h
          obtain ⟨n, hn, h⟩ := h
          have HM := Aside0.mk hn
          clear hn
          by_cases c5 : 0 ≤ n ∧ (a0_4 < 0 ∨ n < a0_4)
          · rw [if_pos c5] at h
            obtain rfl := Option.some.inj h
            have b5 : decide (0 ≤ n) = true := decide_eq_true c5.1
            have c5' := c5.2
            clear h c5
            by_cases c6 : a0_4 < 0
            · have b6 : decide (a0_4 < 0) = true := decide_eq_true c6
              clear c6 c5'
              go_enter Tryd.func71, Tryd.ntmps71
              go_wp2_with (go_at_call 92; (with_reducible refine (tree_most.calls a0_0 n _ HM.out).mono ?_); rintro e w' ⟨rfl, ⟨nd, rfl⟩⟩)
              go_ret
              exact ⟨rfl, pw_below_drewN ((Below.refl _ _).alloc (Nat.le_refl _) _) _⟩
            · have b6 : decide (a0_4 < 0) = false := decide_eq_false c6
              have b7 : decide (n < a0_4) = true := decide_eq_true (by omega)
              clear c6 c5'
              go_enter Tryd.func71, Tryd.ntmps71
              go_wp2_with (go_at_call 92; (with_reducible refine (tree_most.calls a0_0 n _ HM.out).mono ?_); rintro e w' ⟨rfl, ⟨nd, rfl⟩⟩)
              go_ret
              exact ⟨rfl, pw_below_drewN ((Below.refl _ _).alloc (Nat.le_refl _) _) _⟩
          · rw [if_neg c5] at h
            have hx : cellsOf ⟨a0_0, a0_1, a0_2, a0_3, a0_4, a0_5, a0_6, a0_7, a0_8, a0_9⟩ = #[.int .i64 a0_0, .int .i64 a0_1, .int .i64 a0_2, .int .i64 a0_3, .int .i64 a0_4, .string a0_5, .string a0_6, .string a0_7, .string a0_8, .int .i64 a0_9] := rfl
            have hx0 : (⟨a0_0, a0_1, a0_2, a0_3, a0_4, a0_5, a0_6, a0_7, a0_8, a0_9⟩ : S45).f0 = a0_0 := rfl
            generalize (⟨a0_0, a0_1, a0_2, a0_3, a0_4, a0_5, a0_6, a0_7, a0_8, a0_9⟩ : S45) = x at *
            have HX := Aside0.mk hx
            have HX0 := Aside0.mk hx0
            have C5 := Aside0.mk c5
            have H := Aside0.mk h
            clear h c5 hx hx0
            by_cases c6 : 0 ≤ n
            case' pos =>
              have b5 : decide (0 ≤ n) = true := decide_eq_true c6
              have b6 : decide (a0_4 < 0) = false := decide_eq_false (fun h => C5.out ⟨c6, .inl h⟩)
              have b7 : decide (n < a0_4) = false := decide_eq_false (fun h => C5.out ⟨c6, .inr h⟩)
            case' neg =>
              have b5 : decide (0 ≤ n) = false := decide_eq_false c6
            all_goals
              have C6 := Aside0.mk c6
              clear c6
              cases a1
              case' false =>
                have HO := Aside0.mk (show some (MayTail x (decide (0 ≤ n) || (decide (a0_0 = 0 ∨ a0_0 = 9 ∨ a0_0 = 10)))) = some r by
                  have h := H.out
                  simp only [Bool.false_eq_true, if_false, Option.bind_some, if_true] at h
                  rw [← h, MayTail]
                  by_cases q1 : 0 ≤ n <;> by_cases q2 : (a0_0 = 0 ∨ a0_0 = 9 ∨ a0_0 = 10) <;> simp [q1, q2])
                have HQ := Aside0.mk (show tree_Numbered.f a0_0 = some (decide (a0_0 = 0 ∨ a0_0 = 9 ∨ a0_0 = 10)) by
                  unfold tree_Numbered.f
                  by_cases q0 : a0_0 = 0
                  · simp [q0]
                  · by_cases q9 : a0_0 = 9
                    · simp [q9]
                    · by_cases q10 : a0_0 = 10 <;> simp [q0, q9, q10])
                generalize decide (a0_0 = 0 ∨ a0_0 = 9 ∨ a0_0 = 10) = qb at *
                clear H
                go_enter Tryd.func71, Tryd.ntmps71
                go_wp2_with (go_at_call 92; (with_reducible refine (tree_most.calls a0_0 n _ HM.out).mono ?_); rintro e w' ⟨rfl, ⟨nd, rfl⟩⟩)
                have HY := Aside0.mk (show ((w.alloc (.cells #[.int .i64 a0_0, .int .i64 a0_1, .int .i64 a0_2, .int .i64 a0_3, .int .i64 a0_4, .string a0_5, .string a0_6, .string a0_7, .string a0_8, .int .i64 a0_9] 45)).drewN nd).heap[w.heap.size]? = some (.cells (cellsOf x) 45 (0, 0)) by rw [HX.out]; exact heap_alloc_new w _)
                have HBW := Aside0.mk (show Below w.heap.size w ((w.alloc (.cells #[.int .i64 a0_0, .int .i64 a0_1, .int .i64 a0_2, .int .i64 a0_3, .int .i64 a0_4, .string a0_5, .string a0_6, .string a0_7, .string a0_8, .int .i64 a0_9] 45)).drewN nd) from pw_below_drewN ((Below.refl _ _).alloc (Nat.le_refl _) _) _)
                generalize ((w.alloc (.cells #[.int .i64 a0_0, .int .i64 a0_1, .int .i64 a0_2, .int .i64 a0_3, .int .i64 a0_4, .string a0_5, .string a0_6, .string a0_7, .string a0_8, .int .i64 a0_9] 45)).drewN nd) = wr at *
                have HY0 := HX0
                clear HX
                generalize x = y at *
              case' true =>
                have h := H.out
                simp only [if_true] at h
                replace h := Option.bind_eq_some_iff.mp h
                obtain ⟨ok, hok, h⟩ := h
                have HOK := Aside0.mk hok
                have H2 := Aside0.mk h
                clear H h hok
                go_enter Tryd.func71, Tryd.ntmps71
                go_wp2_with (first | (go_at_call 92; (with_reducible refine (tree_most.calls a0_0 n _ HM.out).mono ?_); rintro e w' ⟨rfl, ⟨nd, rfl⟩⟩))
                refine (names_calls w.heap.size a0_0 _ (by simp)).mono ?_
                rintro e w1 ⟨rfl, hb1, hp1⟩
                have hz : ((w.alloc (.cells #[.int .i64 a0_0, .int .i64 a0_1, .int .i64 a0_2, .int .i64 a0_3, .int .i64 a0_4, .string a0_5, .string a0_6, .string a0_7, .string a0_8, .int .i64 a0_9] 45)).drewN nd).heap.size = w.heap.size + 1 := by simp
                have HB1 := Aside0.mk (show Below w.heap.size w w1 from (pw_below_drewN ((Below.refl _ _).alloc (Nat.le_refl _) _) nd).trans (hb1.mono (by omega)))
                have HN1 := Aside0.mk (show w1.heap[w.heap.size]? = some (.cells (cellsOf x) 45 (0, 0)) by rw [hb1.block w.heap.size (by omega), HX.out]; exact heap_alloc_new w _)
                rw [hz] at hp1 ⊢
                have hs1 : w.heap.size + 1 ≤ w1.heap.size := by have := hb1.size; omega
                have HP1 := Aside0.mk hp1
                clear hb1 hz hp1
                generalize hm : (nameOffs a0_0).length = m at *
                have HMM := Aside0.mk hm
                have hm4 : m ≤ 4 := by
                  rw [← hm]
                  unfold nameOffs
                  repeat' split
                  all_goals decide
                clear hm
                go_wp2_with fail
                go_loopw [47] (fun v47 wr => ∃ (i : Nat), v47 = .int .i64 i ∧ i ≤ m ∧ Aside0 (goN k ((namesOf x).drop i) = some ok) ∧ Aside0 (wr.heap[w.heap.size]? = some (.cells (clr (.string ⟨#[]⟩) (cellsOf x) ((nameOffs a0_0).take i)) 45 (0, 0))) ∧ Aside0 (0 < m → wr.heap[w.heap.size + 1]? = some (.cells (namePtrs w.heap.size (nameOffs a0_0)).toArray 120 (0, 0))) ∧ Aside0 (Below w.heap.size w wr)) (fun v47 _ => m - (intOf v47).toNat)
                case atStart => exact ⟨0, rfl, Nat.zero_le _, HOK, HN1, HP1, HB1⟩
                case' round =>
                  obtain ⟨i, rfl, hi, HG, HC, HP, HBR⟩ := hrel
                  clear HOK HN1 HP1 HB1
                  by_cases hlt : i < m
                  case' pos =>
                    have hpA : ptrOf (w.heap.size + 1) m = some ⟨w.heap.size + 1, 0, none⟩ := ptrOf_some (by omega)
                    rw [hpA]
                    obtain ⟨p, hp⟩ : ∃ p, (nameOffs a0_0)[i]? = some p := ⟨_, List.getElem?_eq_getElem (by rw [HMM.out]; exact hlt)⟩
                    have hpb := nameOffs_lt a0_0 i p hp
                    obtain ⟨s, hs, hcell⟩ := names_at x i p (by rw [HX0.out]; exact hp)
                    rw [HX0.out] at hcell
                    have c1 : wr.cell? ⟨w.heap.size, p, none⟩ = some (.string s) := by rw [blk_cell HC.out p]; exact hcell
                    have f1 : wr.frozen? ⟨w.heap.size, p, none⟩ = false := blk_frozen HC.out p
                    have c2 : wr.cell? ⟨w.heap.size + 1, i, none⟩ = some (.pointer (some ⟨w.heap.size, p, none⟩)) := by
                      rw [blk_cell (HP.out (by omega)) i, List.getElem?_toArray]
                      simp [namePtrs, hp]
                    have hg := HG.out
                    rw [← hr_drop hs, goN] at hg
                    replace hg := Option.bind_eq_some_iff.mp hg
                    obtain ⟨b, hb, hg⟩ := hg
                    have HNM := Aside0.mk hb
                    have HG2 := Aside0.mk hg
                    have HPI := Aside0.mk hp
                    have hwl : w.heap.size < wr.heap.size := blk_lt HC.out
                    have hwl2 : w.heap.size + 1 < wr.heap.size := blk_lt (HP.out (by omega))
                    clear hs hcell hp hg hb HG
                    cases b
                    case false =>
                      have hg := HG2.out
                      simp only [Bool.false_eq_true, if_false] at hg
                      obtain rfl := Option.some.inj hg
                      have h2 := H2.out
                      simp only [Bool.false_eq_true, if_false] at h2
                      obtain rfl := Option.some.inj h2
                      clear hg h2 H2 HG2
                      go_wp2_with (go_at_call 68; (with_reducible refine (lex_NameMay.calls k s false _ HNM.out).mono ?_); rintro e w3 ⟨rfl, hb3⟩; have HB3 := Aside0.mk hb3; clear hb3)
                      go_ret
                      exact ⟨rfl, HBR.out.trans (HB3.out.mono (by omega))⟩
                    case true =>
                      have hg := HG2.out
                      simp only [if_true] at hg
                      have HG3 := Aside0.mk hg
                      clear hg HG2
                      go_wp2_with (go_at_call 68; (with_reducible refine (lex_NameMay.calls k s true _ HNM.out).mono ?_); rintro e w3 ⟨rfl, hb3⟩; have HB3 := Aside0.mk hb3; have c3 : w3.cell? ⟨w.heap.size, p, none⟩ = some (.string s) := (hb3.cell (p := ⟨w.heap.size, p, none⟩) hwl).trans c1; have f3 : w3.frozen? ⟨w.heap.size, p, none⟩ = false := (hb3.frozen (p := ⟨w.heap.size, p, none⟩) hwl).trans f1; clear hb3)
                      go_roundw
                      case rel =>
                        refine ⟨i + 1, by go_num, by omega, HG3, ⟨?_⟩, ⟨fun _ => ?_⟩, ⟨?_⟩⟩
                        · rw [blk_set ((HB3.out.block w.heap.size hwl).trans HC.out) p, clr_snoc _ _ _ _ _ HPI.out]
                        · exact blk_far ((HB3.out.block (w.heap.size + 1) hwl2).trans (HP.out (by omega))) (by show w.heap.size + 1 ≠ w.heap.size; omega) _
                        · exact (HBR.out.trans (HB3.out.mono (by omega))).setCell (Nat.le_refl _) _
                      case measure => simp [intOf]; omega
                  case' neg =>
                    have hin : i = m := by omega
                    subst hin
                    have hg := HG.out
                    rw [List.drop_eq_nil_of_le (by rw [names_len, HX0.out, HMM.out]; exact Nat.le_refl _), goN] at hg
                    obtain rfl := Option.some.inj hg
                    have hc := HC.out
                    rw [List.take_of_length_le (by rw [HMM.out]; exact Nat.le_refl _)] at hc
                    have hcn := clr_names x
                    rw [HX0.out] at hcn
                    rw [hcn] at hc
                    have HY := Aside0.mk hc
                    have HBW := HBR
                    have HY0 := Aside0.mk ((noNames_kind x).trans HX0.out)
                    have HO := Aside0.mk (show some (MayTail (noNames x) (decide (0 ≤ n))) = some r by
                      have h2 := H2.out
                      simp only [if_true] at h2
                      rw [← h2, MayTail]
                      by_cases q1 : 0 ≤ n <;> simp [q1])
                    clear hg hc hcn HG HC HP H2 HX HBR
                    generalize noNames x = y at *
                    go_wp2_with fail
            all_goals
              have hwl : w.heap.size < wr.heap.size := blk_lt HY.out
              refine (kids_calls w.heap.size 0 a0_0 wr (by rw [blk_cell HY.out 0, ← HY0.out]; rfl)).mono ?_
              rintro e w5 ⟨rfl, hb5, hp5⟩
              have HB5 := Aside0.mk (show Below w.heap.size w w5 from HBW.out.trans (hb5.mono (by omega)))
              have HY5 := Aside0.mk ((hb5.block w.heap.size hwl).trans HY.out)
              have HP5 := Aside0.mk hp5
              have hs5 : wr.heap.size ≤ w5.heap.size := hb5.size
              clear hb5 hp5 HBW HY
              generalize hg1 : wr.heap.size = g1 at *
              generalize hn3 : kidsN a0_0 = n3 at *
              have HN3 := Aside0.mk hn3
              have hn33 : n3 ≤ 3 := by rw [← hn3]; exact kidsN_le _
              clear hg1 hn3
              go_wp2_with fail
              go_loopw [61] (fun v61 wr => ∃ (i : Nat), v61 = .int .i64 i ∧ i ≤ n3 ∧ Aside0 (wr.heap[w.heap.size]? = some (.cells (clr (.int .i64 0) (cellsOf y) (((List.range n3).map (0 + 1 + ·)).take i)) 45 (0, 0))) ∧ Aside0 (0 < n3 → wr.heap[g1]? = some (.cells (fieldPtrs w.heap.size (0 + 1) n3).toArray 74 (0, 0))) ∧ Aside0 (Below w.heap.size w wr)) (fun v61 _ => n3 - (intOf v61).toNat)
              case atStart => exact ⟨0, rfl, Nat.zero_le _, HY5, HP5, HB5⟩
              case round =>
                obtain ⟨i, rfl, hi, HC, HP, HBR⟩ := hrel
                clear HY5 HP5 HB5
                by_cases hlt : i < n3
                · have hpA : ptrOf g1 n3 = some ⟨g1, 0, none⟩ := ptrOf_some (by omega)
                  rw [hpA]
                  have hsz := HC.out
                  have c1 : ∃ v, wr.cell? ⟨w.heap.size, 0 + 1 + i, none⟩ = some v := by
                    rw [blk_cell HC.out (0 + 1 + i)]
                    exact ⟨_, Array.getElem?_eq_getElem (by rw [clr_size]; show _ < 10; omega)⟩
                  obtain ⟨v, c1⟩ := c1
                  have f1 : wr.frozen? ⟨w.heap.size, 0 + 1 + i, none⟩ = false := blk_frozen HC.out _
                  have c2 : wr.cell? ⟨g1, i, none⟩ = some (.pointer (some ⟨w.heap.size, 0 + 1 + i, none⟩)) := by
                    rw [blk_cell (HP.out (by omega)) i, List.getElem?_toArray]
                    exact fieldPtrs_get _ _ _ _ hlt
                  clear hsz
                  go_wp2
                  go_roundw
                  case rel =>
                    refine ⟨i + 1, by go_num, by omega, ⟨?_⟩, ⟨fun _ => ?_⟩, ⟨?_⟩⟩
                    · rw [show (0 + 1 + i) = 0 + 1 + i from rfl, blk_set HC.out (0 + 1 + i), clr_snoc _ _ _ _ _ (kidPtrs_get 0 i n3 hlt)]
                    · exact blk_far (HP.out (by omega)) (by show g1 ≠ w.heap.size; omega) _
                    · exact HBR.out.setCell (Nat.le_refl _) _
                  case measure => simp [intOf]; omega
                · have hin : i = n3 := by omega
                  subst hin
                  have hc := HC.out
                  rw [List.take_of_length_le (by simp)] at hc
                  have hck := clr_kids y
                  rw [HY0.out, HN3.out] at hck
                  rw [hck] at hc
                  have hk0 := (noKids_kind y).trans HY0.out
                  have ho := HO.out
                  rw [MayTail] at ho
                  generalize noKids y = z at *
                  have d0 : wr.cell? ⟨w.heap.size, 0, none⟩ = some (.int .i64 a0_0) := by rw [blk_cell hc 0, ← hk0]; rfl
                  have d1 : wr.cell? ⟨w.heap.size, 1, none⟩ = some (.int .i64 z.f1) := blk_cell hc 1
                  have d2 : wr.cell? ⟨w.heap.size, 2, none⟩ = some (.int .i64 z.f2) := blk_cell hc 2
                  have d3 : wr.cell? ⟨w.heap.size, 3, none⟩ = some (.int .i64 z.f3) := blk_cell hc 3
                  have d4 : wr.cell? ⟨w.heap.size, 4, none⟩ = some (.int .i64 z.f4) := blk_cell hc 4
                  have d5 : wr.cell? ⟨w.heap.size, 5, none⟩ = some (.string z.f5) := blk_cell hc 5
                  have d6 : wr.cell? ⟨w.heap.size, 6, none⟩ = some (.string z.f6) := blk_cell hc 6
                  have d7 : wr.cell? ⟨w.heap.size, 7, none⟩ = some (.string z.f7) := blk_cell hc 7
                  have d8 : wr.cell? ⟨w.heap.size, 8, none⟩ = some (.string z.f8) := blk_cell hc 8
                  have d9 : wr.cell? ⟨w.heap.size, 9, none⟩ = some (.int .i64 z.f9) := blk_cell hc 9
                  have f4 : wr.frozen? ⟨w.heap.size, 4, none⟩ = false := blk_frozen hc 4
                  have HO2 := Aside0.mk ho
                  clear hc hck hk0 ho HC HO HP
                  go_wp2_with (go_at_call 94; (with_reducible refine (tree_Numbered.calls a0_0 _ _ HQ.out).mono ?_); rintro e w' ⟨rfl, ⟨nd, rfl⟩⟩)
                  all_goals go_ret
                  all_goals
                    refine ⟨?_, ?_⟩
                    · have hr := Option.some.inj HO2.out
                      rw [← hr, b5]
                      clear hr HO2
                      first | (simp [bareNode, noNum]; done) | (rename_i hqb; simp [bareNode, noNum, hqb]; done) | (simp [bareNode, noNum, *]; done)
                    · first | exact HBR.out.setCell (Nat.le_refl _) _ | exact HBR.out | exact pw_below_drewN HBR.out _ | exact (pw_below_drewN HBR.out _).setCell (Nat.le_refl _) _



end Go.Proofs.YtnogfhhfklkbiaaDoor.H

namespace Go.Proofs.YtnogfhhfklkbiaaDoor.H
open Go.RowKit Go.Proofs.YtnogfhhfklkbiaaDoorW.PrintWords Go.Proofs.YtnogfhhfklkbiaaDoorW.PrintLast Go.Proofs.YtnogfhhfklkbiaaDoorW.PrintMore
attribute [local go_sem] max2_int min2_int max_two min_two max_three min_three max_four min_four   -- for this text's walks alone
set_option linter.unusedVariables false
set_option linter.unusedSimpArgs false

/-! ### tree_Shaped: function 47 -/
mutual
def tree_Shaped.j0 : Nat → List (S45) → Bool → Bool → Option (Bool)
  | 0, _, _, _ => none
  | k + 1, x0, x1, x14 => if x14 = true then (some false) else (tree_Shaped.l0 k x0 x1 x0 (x0.length : Int) 0)
def tree_Shaped.l0 : Nat → List (S45) → Bool → List (S45) → Int → Int → Option (Bool)
  | 0, _, _, _, _, _ => none
  | k + 1, x0, x1, x15, x16, x17 => if x17 < x16 then (if 0 ≤ x17 then (if x17 < (x15.length : Int) then ((tree_may.f k ((rd_T45 x15 x17).f0) ((rd_T45 x15 x17).f1) ((rd_T45 x15 x17).f2) ((rd_T45 x15 x17).f3) ((rd_T45 x15 x17).f4) ((rd_T45 x15 x17).f5) ((rd_T45 x15 x17).f6) ((rd_T45 x15 x17).f7) ((rd_T45 x15 x17).f8) ((rd_T45 x15 x17).f9) x1).bind fun t316 => (if t316 = true then (tree_Shaped.l0 k x0 x1 x15 x16 (wrap64 (x17 + 1))) else (some false))) else (none)) else (none)) else ((tree_Begin.f k x0 (wrap64 ((x0.length : Int) - 1))).bind fun t317 => (some (t317 == 0)))
end
def tree_Shaped.f (k : Nat) (l0 : List (S45)) (a1 : Bool) : Option (Bool) := if (l0.length : Int) < 1 then (tree_Shaped.j0 k l0 a1 true) else (tree_Shaped.j0 k l0 a1 (decide ((l0.length : Int) > 512)))
theorem tree_Shaped.mono_l : ∀ k, (∀ y0 y1 y2, LeO (tree_Shaped.j0 k y0 y1 y2) (tree_Shaped.j0 (k + 1) y0 y1 y2)) ∧ (∀ y0 y1 y2 y3 y4, LeO (tree_Shaped.l0 k y0 y1 y2 y3 y4) (tree_Shaped.l0 (k + 1) y0 y1 y2 y3 y4))
  | 0 => ⟨fun _ _ _ r h => by simp [tree_Shaped.j0] at h, fun _ _ _ _ _ r h => by simp [tree_Shaped.l0] at h⟩
  | k + 1 => by
    obtain ⟨ih0, ih1⟩ := tree_Shaped.mono_l k
    refine ⟨?_, ?_⟩
    · intro y0 y1 y2
      unfold tree_Shaped.j0
      repeat' first
      | (with_reducible exact ih0 _ _ _)
      | (with_reducible exact ih1 _ _ _ _ _)
      | (with_reducible exact tree_Begin.mono _ _ _)
      | (with_reducible exact tree_may.mono _ _ _ _ _ _ _ _ _ _ _ _)
      | (with_reducible exact LeO.refl _)
      | (with_reducible exact LeO.none _)
      | (with_reducible refine LeO.ite ?_ ?_)
      | (with_reducible refine LeO.bind ?_ (fun _ => ?_))
      | exact ih0 _ _ _
      | exact ih1 _ _ _ _ _
      | exact tree_Begin.mono _ _ _
      | exact tree_may.mono _ _ _ _ _ _ _ _ _ _ _ _
      | exact LeO.none _
      | refine LeO.ite ?_ ?_
      | refine LeO.bind ?_ (fun _ => ?_)
    · intro y0 y1 y2 y3 y4
      unfold tree_Shaped.l0
      repeat' first
      | (with_reducible exact ih0 _ _ _)
      | (with_reducible exact ih1 _ _ _ _ _)
      | (with_reducible exact tree_Begin.mono _ _ _)
      | (with_reducible exact tree_may.mono _ _ _ _ _ _ _ _ _ _ _ _)
      | (with_reducible exact LeO.refl _)
      | (with_reducible exact LeO.none _)
      | (with_reducible refine LeO.ite ?_ ?_)
      | (with_reducible refine LeO.bind ?_ (fun _ => ?_))
      | exact ih0 _ _ _
      | exact ih1 _ _ _ _ _
      | exact tree_Begin.mono _ _ _
      | exact tree_may.mono _ _ _ _ _ _ _ _ _ _ _ _
      | exact LeO.none _
      | refine LeO.ite ?_ ?_
      | refine LeO.bind ?_ (fun _ => ?_)
theorem tree_Shaped.mono : ∀ a0 a1 k, LeO (tree_Shaped.f k a0 a1) (tree_Shaped.f (k + 1) a0 a1) := by
  intro a0 a1 k
  obtain ⟨ih0, ih1⟩ := tree_Shaped.mono_l k
  unfold tree_Shaped.f
  repeat' first
      | (with_reducible exact ih0 _ _ _)
      | (with_reducible exact ih1 _ _ _ _ _)
      | (with_reducible exact tree_Begin.mono _ _ _)
      | (with_reducible exact tree_may.mono _ _ _ _ _ _ _ _ _ _ _ _)
      | (with_reducible exact LeO.refl _)
      | (with_reducible exact LeO.none _)
      | (with_reducible refine LeO.ite ?_ ?_)
      | (with_reducible refine LeO.bind ?_ (fun _ => ?_))
      | exact ih0 _ _ _
      | exact ih1 _ _ _ _ _
      | exact tree_Begin.mono _ _ _
      | exact tree_may.mono _ _ _ _ _ _ _ _ _ _ _ _
      | exact LeO.none _
      | refine LeO.ite ?_ ?_
      | refine LeO.bind ?_ (fun _ => ?_)
set_option maxHeartbeats 8000000 in
set_option maxRecDepth 100000 in
theorem tree_Shaped.calls (k : Nat) (A0 : Option Addr) (c0 : Nat) (l0 : List (S45)) (a1 : Bool) (r : Bool) (w : World) (hr0 : Kd.C k45 w A0 l0.length l0) (hc0 : l0.length ≤ c0) (h : tree_Shaped.f k l0 a1 = some r) :
    Calls Tryd.prog 47 #[.slice A0 l0.length c0, .bool a1] w fun e w' => e = .returned (.bool r) ∧ Below w.heap.size w w' := by
  have hu45 := Tryd.underlying45
  have HR0 := Aside0.mk hr0
  have HC0 := Aside0.mk hc0
  clear hr0 hc0
  have HB := Aside0.mk (Below.refl w.heap.size w)
  have H : (if (l0.length : Int) < 1 then (tree_Shaped.j0 k l0 a1 true) else (tree_Shaped.j0 k l0 a1 (decide ((l0.length : Int) > 512)))) = some r := h
  clear h
  have HC3 := Aside0.mk H
  clear H
  go_enter Tryd.func47, Tryd.ntmps47
  go_upto_region 1 with (fail)
  go_cut [14] (fun v14 wc => ∃ (kq : Nat) (x14_2 : Bool), v14 = .bool x14_2 ∧ Aside0 (tree_Shaped.j0 kq l0 a1 x14_2 = some r) ∧ Aside0 (kq ≤ k) ∧ Aside0 (Below w.heap.size w wc))
  case first =>
    have H := HC3.out
    clear HC3
    by_cases c4 : (l0.length : Int) < 1
    · rw [if_pos c4] at H
      have c4b0 : decide ((l0.length : Int) < 1) = true := decide_eq_true c4
      have c4b1 : decide (l0.length < 1) = true := decide_eq_true (by omega)
      clear c4
      (first | rw [c4b0] | (simp only [i64_w, i32_w]; rw [c4b0]) | skip)
      have H' := Aside0.mk H
      clear H
      go_wp2
      go_meet
      case rel => exact ⟨_, (true), (by first | rfl | (simp; done) | (simp [*]; done)), H', ⟨by first | omega | exact Nat.le_refl _⟩, ⟨by repeat (first | (with_reducible first | exact HB.out | apply below_alloc | apply pw_below_drewN | apply below_drew1) | exact HB.out)⟩⟩
    · rw [if_neg c4] at H
      have c4b0 : decide ((l0.length : Int) < 1) = false := decide_eq_false c4
      have c4b1 : decide (l0.length < 1) = false := decide_eq_false (by omega)
      clear c4
      (first | rw [c4b0] | (simp only [i64_w, i32_w]; rw [c4b0]) | skip)
      have H' := Aside0.mk H
      clear H
      go_wp2
      go_meet
      case rel => exact ⟨_, (decide ((l0.length : Int) > 512)), (by first | rfl | (simp; done) | (simp [*]; done)), H', ⟨by first | omega | exact Nat.le_refl _⟩, ⟨by repeat (first | (with_reducible first | exact HB.out | apply below_alloc | apply pw_below_drewN | apply below_drew1) | exact HB.out)⟩⟩
  case rest =>
    clear HC3
    try clear p2
    try clear c4
    try clear c4b0
    try clear c4b1
    obtain ⟨kq, x14_2, rfl, HA, HJ2, HB⟩ := hcut
    cases kq with
    | zero => exact absurd HA.out (by simp [tree_Shaped.j0])
    | succ kj2 =>
      have H := HA.out
      clear HA
      simp only [tree_Shaped.j0] at H
      by_cases c5 : x14_2 = true
      · subst c5
        have H1 : (some false) = some r := by rw [if_pos rfl] at H; exact H
        clear H
        have H := H1
        clear H1
        obtain rfl := Option.some.inj H
        go_wp2
        go_ret
        exact ⟨by first | rfl | (simp [errW_none, errW_some] <;> rfl) | (simp [*, errW_none, errW_some] <;> rfl), by repeat (first | (with_reducible first | exact HB.out | apply below_alloc | apply pw_below_drewN | apply below_drew1) | exact HB.out)⟩
      · replace c5 := Bool.eq_false_iff.mpr c5
        subst c5
        have H1 : (tree_Shaped.l0 kj2 l0 a1 l0 (l0.length : Int) 0) = some r := by rw [if_neg (show ¬ (false = true) by decide)] at H; exact H
        clear H
        have H := H1
        clear H1
        have H' := Aside0.mk H
        clear H
        go_wp2
        go_loopg [17] kj2 (fun kq v17 w' => ∃ (x17_2 : Int), v17 = .int .i64 x17_2 ∧ Aside0 (tree_Shaped.l0 kq l0 a1 l0 (l0.length : Int) x17_2 = some r) ∧ Aside0 (kq ≤ kj2) ∧ Aside0 (Below w.heap.size w w'))
        case atStart => exact ⟨(0), (by first | rfl | (simp; done) | (simp [*]; done)), H', ⟨Nat.le_refl _⟩, ⟨by repeat (first | (with_reducible first | exact HB.out | apply below_alloc | apply pw_below_drewN | apply below_drew1) | exact HB.out)⟩⟩
        case round =>
          clear H'
          try clear p2
          try clear c4
          try clear c4b0
          try clear c4b1
          try clear c5
          try clear p2
          obtain ⟨x17_2, rfl, HA, HK2, HB⟩ := hrel
          cases gk with
          | zero => exact absurd HA.out (by simp [tree_Shaped.l0])
          | succ k2 =>
            have H := HA.out
            clear HA
            simp only [tree_Shaped.l0] at H
            by_cases c6 : x17_2 < (l0.length : Int)
            · rw [if_pos c6] at H
              have c6b0 : decide (x17_2 < (l0.length : Int)) = true := decide_eq_true c6
              clear c6
              by_cases c7 : 0 ≤ x17_2
              · rw [if_pos c7] at H
                have c7b0 : decide (0 ≤ x17_2) = true := decide_eq_true c7
                clear c7
                by_cases c8 : x17_2 < (l0.length : Int)
                · rw [if_pos c8] at H
                  have c8b0 : decide (x17_2 < (l0.length : Int)) = true := decide_eq_true c8
                  clear c8
                  replace H := Option.bind_eq_some_iff.mp H
                  obtain ⟨t316, A90, H⟩ := H
                  replace H : (if t316 = true then (tree_Shaped.l0 k2 l0 a1 l0 (l0.length : Int) (wrap64 (x17_2 + 1))) else (some false)) = some r := H
                  have A9 := Aside0.mk A90
                  clear A90
                  by_cases c10 : t316 = true
                  · subst c10
                    have H1 : (tree_Shaped.l0 k2 l0 a1 l0 (l0.length : Int) (wrap64 (x17_2 + 1))) = some r := by rw [if_pos rfl] at H; exact H
                    clear H
                    have H := H1
                    clear H1
                    have H' := Aside0.mk H
                    clear H
                    have p314 : 0 ≤ (x17_2 : Int) := of_decide_eq_true (by first | (with_reducible assumption) | assumption)
                    have q314 : x17_2 < (l0.length : Int) := of_decide_eq_true (by first | (with_reducible assumption) | assumption)
                    obtain ⟨ad314, e314, hx314_0, hx314_1, hx314_2, hx314_3, hx314_4, hx314_5, hx314_6, hx314_7, hx314_8, hx314_9⟩ := at_T45 HR0.out x17_2 p314 q314
                    cases e314
                    replace hx314_0 := (HB.out.cell (World.block_lt_of_cell? w _ hx314_0)).trans hx314_0
                    replace hx314_1 := (HB.out.cell (World.block_lt_of_cell? w _ hx314_1)).trans hx314_1
                    replace hx314_2 := (HB.out.cell (World.block_lt_of_cell? w _ hx314_2)).trans hx314_2
                    replace hx314_3 := (HB.out.cell (World.block_lt_of_cell? w _ hx314_3)).trans hx314_3
                    replace hx314_4 := (HB.out.cell (World.block_lt_of_cell? w _ hx314_4)).trans hx314_4
                    replace hx314_5 := (HB.out.cell (World.block_lt_of_cell? w _ hx314_5)).trans hx314_5
                    replace hx314_6 := (HB.out.cell (World.block_lt_of_cell? w _ hx314_6)).trans hx314_6
                    replace hx314_7 := (HB.out.cell (World.block_lt_of_cell? w _ hx314_7)).trans hx314_7
                    replace hx314_8 := (HB.out.cell (World.block_lt_of_cell? w _ hx314_8)).trans hx314_8
                    replace hx314_9 := (HB.out.cell (World.block_lt_of_cell? w _ hx314_9)).trans hx314_9
                    replace p314 := eq_true p314
                    replace q314 := eq_true q314
                    go_wp2_with (first | ((with_reducible refine gate_dst (N := 6) rfl ?_); (try (refine gate_guard (by rfl) ?_; dsimp only)); refine box_event ?hg (N := 6) ?hd (cs := #[.int .i64 0, .int .i64 0, .int .i64 0, .int .i64 0, .int .i64 0, .string (⟨#[]⟩ : ByteArray), .string (⟨#[]⟩ : ByteArray), .string (⟨#[]⟩ : ByteArray), .string (⟨#[]⟩ : ByteArray), .int .i64 0]) (t := 45) ?hr ?_; (case hd => rfl); (case hg => rfl); (case hr => first | (go_simp; done) | (go_simp; rfl)); intro gb315 hg w11 hbox hb; have n0_ := Aside0.mk (below_step (by repeat (first | (with_reducible first | exact HB.out | apply below_alloc | apply pw_below_drewN | apply below_drew1) | exact HB.out)) hb); have n1_ := Aside0.mk (hbox); have n2_ := Aside0.mk ((by rw [hg]; exact (below_size (by repeat (first | (with_reducible first | exact HB.out | apply below_alloc | apply pw_below_drewN | apply below_drew1) | exact HB.out))) : w.heap.size ≤ gb315)); have n3_ := Aside0.mk ((by rw [hg]; exact (below_size (by repeat (first | (with_reducible first | exact HB.out | apply below_alloc | apply pw_below_drewN | apply below_drew1) | exact HB.out))) : w.heap.size ≤ gb315)); clear HB; have HB := n0_; have BK315 := n1_; have GW315 := n2_; have GE315 := n3_; clear n0_ n1_ n2_ n3_; clear hb hbox hg; have hcz12_0 : w11.cell? ⟨gb315, 0, none⟩ = some (.int .i64 0) := (blk_cell BK315.out 0).trans rfl; have hcz12_1 : w11.cell? ⟨gb315, 1, none⟩ = some (.int .i64 0) := (blk_cell BK315.out 1).trans rfl; have hcz12_2 : w11.cell? ⟨gb315, 2, none⟩ = some (.int .i64 0) := (blk_cell BK315.out 2).trans rfl; have hcz12_3 : w11.cell? ⟨gb315, 3, none⟩ = some (.int .i64 0) := (blk_cell BK315.out 3).trans rfl; have hcz12_4 : w11.cell? ⟨gb315, 4, none⟩ = some (.int .i64 0) := (blk_cell BK315.out 4).trans rfl; have hcz12_5 : w11.cell? ⟨gb315, 5, none⟩ = some (.string (⟨#[]⟩ : ByteArray)) := (blk_cell BK315.out 5).trans rfl; have hcz12_6 : w11.cell? ⟨gb315, 6, none⟩ = some (.string (⟨#[]⟩ : ByteArray)) := (blk_cell BK315.out 6).trans rfl; have hcz12_7 : w11.cell? ⟨gb315, 7, none⟩ = some (.string (⟨#[]⟩ : ByteArray)) := (blk_cell BK315.out 7).trans rfl; have hcz12_8 : w11.cell? ⟨gb315, 8, none⟩ = some (.string (⟨#[]⟩ : ByteArray)) := (blk_cell BK315.out 8).trans rfl; have hcz12_9 : w11.cell? ⟨gb315, 9, none⟩ = some (.int .i64 0) := (blk_cell BK315.out 9).trans rfl; have hfz12_0 := blk_frozen BK315.out 0; have hfz12_1 := blk_frozen BK315.out 1; have hfz12_2 := blk_frozen BK315.out 2; have hfz12_3 := blk_frozen BK315.out 3; have hfz12_4 := blk_frozen BK315.out 4; have hfz12_5 := blk_frozen BK315.out 5; have hfz12_6 := blk_frozen BK315.out 6; have hfz12_7 := blk_frozen BK315.out 7; have hfz12_8 := blk_frozen BK315.out 8; have hfz12_9 := blk_frozen BK315.out 9) | ((with_reducible refine gate_callee (f := 71) rfl ?_); refine goesL_ (some 23) rfl rfl Tryd.func71 (by kernel_rfl) rfl #[.agg #[.int .i64 ((rd_T45 l0 x17_2).f0), .int .i64 ((rd_T45 l0 x17_2).f1), .int .i64 ((rd_T45 l0 x17_2).f2), .int .i64 ((rd_T45 l0 x17_2).f3), .int .i64 ((rd_T45 l0 x17_2).f4), .string ((rd_T45 l0 x17_2).f5), .string ((rd_T45 l0 x17_2).f6), .string ((rd_T45 l0 x17_2).f7), .string ((rd_T45 l0 x17_2).f8), .int .i64 ((rd_T45 l0 x17_2).f9)], .bool a1] rfl (by (try simp only [List.map_toArray, List.map_cons, List.map_nil]); first | done | rfl | (simp only [List.length_drop, List.length_take]; rfl)) ?_; (with_reducible refine (tree_may.calls k2 ((rd_T45 l0 x17_2).f0) ((rd_T45 l0 x17_2).f1) ((rd_T45 l0 x17_2).f2) ((rd_T45 l0 x17_2).f3) ((rd_T45 l0 x17_2).f4) ((rd_T45 l0 x17_2).f5) ((rd_T45 l0 x17_2).f6) ((rd_T45 l0 x17_2).f7) ((rd_T45 l0 x17_2).f8) ((rd_T45 l0 x17_2).f9) a1 true _ A9.out).mono ?_); rintro e w13 ⟨rfl, hb⟩; refine ⟨_, rfl, ?_⟩; have n0_ := Aside0.mk (blk_below (g := gb315) (o := .cells #[.int .i64 ((rd_T45 l0 x17_2).f0), .int .i64 ((rd_T45 l0 x17_2).f1), .int .i64 ((rd_T45 l0 x17_2).f2), .int .i64 ((rd_T45 l0 x17_2).f3), .int .i64 ((rd_T45 l0 x17_2).f4), .string ((rd_T45 l0 x17_2).f5), .string ((rd_T45 l0 x17_2).f6), .string ((rd_T45 l0 x17_2).f7), .string ((rd_T45 l0 x17_2).f8), .int .i64 ((rd_T45 l0 x17_2).f9)] 45 (0, 0)) (by (with_reducible repeat (first | refine blk_drewN ?_ _ | refine blk_drew ?_ | refine blk_alloc ?_ _)); refine blk_put (cs := #[.int .i64 ((rd_T45 l0 x17_2).f0), .int .i64 ((rd_T45 l0 x17_2).f1), .int .i64 ((rd_T45 l0 x17_2).f2), .int .i64 ((rd_T45 l0 x17_2).f3), .int .i64 ((rd_T45 l0 x17_2).f4), .string ((rd_T45 l0 x17_2).f5), .string ((rd_T45 l0 x17_2).f6), .string ((rd_T45 l0 x17_2).f7), .string ((rd_T45 l0 x17_2).f8), .int .i64 0]) ?_ 9 _ rfl; (with_reducible repeat (first | refine blk_drewN ?_ _ | refine blk_drew ?_ | refine blk_alloc ?_ _)); refine blk_put (cs := #[.int .i64 ((rd_T45 l0 x17_2).f0), .int .i64 ((rd_T45 l0 x17_2).f1), .int .i64 ((rd_T45 l0 x17_2).f2), .int .i64 ((rd_T45 l0 x17_2).f3), .int .i64 ((rd_T45 l0 x17_2).f4), .string ((rd_T45 l0 x17_2).f5), .string ((rd_T45 l0 x17_2).f6), .string ((rd_T45 l0 x17_2).f7), .string (⟨#[]⟩ : ByteArray), .int .i64 0]) ?_ 8 _ rfl; (with_reducible repeat (first | refine blk_drewN ?_ _ | refine blk_drew ?_ | refine blk_alloc ?_ _)); refine blk_put (cs := #[.int .i64 ((rd_T45 l0 x17_2).f0), .int .i64 ((rd_T45 l0 x17_2).f1), .int .i64 ((rd_T45 l0 x17_2).f2), .int .i64 ((rd_T45 l0 x17_2).f3), .int .i64 ((rd_T45 l0 x17_2).f4), .string ((rd_T45 l0 x17_2).f5), .string ((rd_T45 l0 x17_2).f6), .string (⟨#[]⟩ : ByteArray), .string (⟨#[]⟩ : ByteArray), .int .i64 0]) ?_ 7 _ rfl; (with_reducible repeat (first | refine blk_drewN ?_ _ | refine blk_drew ?_ | refine blk_alloc ?_ _)); refine blk_put (cs := #[.int .i64 ((rd_T45 l0 x17_2).f0), .int .i64 ((rd_T45 l0 x17_2).f1), .int .i64 ((rd_T45 l0 x17_2).f2), .int .i64 ((rd_T45 l0 x17_2).f3), .int .i64 ((rd_T45 l0 x17_2).f4), .string ((rd_T45 l0 x17_2).f5), .string (⟨#[]⟩ : ByteArray), .string (⟨#[]⟩ : ByteArray), .string (⟨#[]⟩ : ByteArray), .int .i64 0]) ?_ 6 _ rfl; (with_reducible repeat (first | refine blk_drewN ?_ _ | refine blk_drew ?_ | refine blk_alloc ?_ _)); refine blk_put (cs := #[.int .i64 ((rd_T45 l0 x17_2).f0), .int .i64 ((rd_T45 l0 x17_2).f1), .int .i64 ((rd_T45 l0 x17_2).f2), .int .i64 ((rd_T45 l0 x17_2).f3), .int .i64 ((rd_T45 l0 x17_2).f4), .string (⟨#[]⟩ : ByteArray), .string (⟨#[]⟩ : ByteArray), .string (⟨#[]⟩ : ByteArray), .string (⟨#[]⟩ : ByteArray), .int .i64 0]) ?_ 5 _ rfl; (with_reducible repeat (first | refine blk_drewN ?_ _ | refine blk_drew ?_ | refine blk_alloc ?_ _)); refine blk_put (cs := #[.int .i64 ((rd_T45 l0 x17_2).f0), .int .i64 ((rd_T45 l0 x17_2).f1), .int .i64 ((rd_T45 l0 x17_2).f2), .int .i64 ((rd_T45 l0 x17_2).f3), .int .i64 0, .string (⟨#[]⟩ : ByteArray), .string (⟨#[]⟩ : ByteArray), .string (⟨#[]⟩ : ByteArray), .string (⟨#[]⟩ : ByteArray), .int .i64 0]) ?_ 4 _ rfl; (with_reducible repeat (first | refine blk_drewN ?_ _ | refine blk_drew ?_ | refine blk_alloc ?_ _)); refine blk_put (cs := #[.int .i64 ((rd_T45 l0 x17_2).f0), .int .i64 ((rd_T45 l0 x17_2).f1), .int .i64 ((rd_T45 l0 x17_2).f2), .int .i64 0, .int .i64 0, .string (⟨#[]⟩ : ByteArray), .string (⟨#[]⟩ : ByteArray), .string (⟨#[]⟩ : ByteArray), .string (⟨#[]⟩ : ByteArray), .int .i64 0]) ?_ 3 _ rfl; (with_reducible repeat (first | refine blk_drewN ?_ _ | refine blk_drew ?_ | refine blk_alloc ?_ _)); refine blk_put (cs := #[.int .i64 ((rd_T45 l0 x17_2).f0), .int .i64 ((rd_T45 l0 x17_2).f1), .int .i64 0, .int .i64 0, .int .i64 0, .string (⟨#[]⟩ : ByteArray), .string (⟨#[]⟩ : ByteArray), .string (⟨#[]⟩ : ByteArray), .string (⟨#[]⟩ : ByteArray), .int .i64 0]) ?_ 2 _ rfl; (with_reducible repeat (first | refine blk_drewN ?_ _ | refine blk_drew ?_ | refine blk_alloc ?_ _)); refine blk_put (cs := #[.int .i64 ((rd_T45 l0 x17_2).f0), .int .i64 0, .int .i64 0, .int .i64 0, .int .i64 0, .string (⟨#[]⟩ : ByteArray), .string (⟨#[]⟩ : ByteArray), .string (⟨#[]⟩ : ByteArray), .string (⟨#[]⟩ : ByteArray), .int .i64 0]) ?_ 1 _ rfl; (with_reducible repeat (first | refine blk_drewN ?_ _ | refine blk_drew ?_ | refine blk_alloc ?_ _)); refine blk_put (cs := #[.int .i64 0, .int .i64 0, .int .i64 0, .int .i64 0, .int .i64 0, .string (⟨#[]⟩ : ByteArray), .string (⟨#[]⟩ : ByteArray), .string (⟨#[]⟩ : ByteArray), .string (⟨#[]⟩ : ByteArray), .int .i64 0]) ?_ 0 _ rfl; (with_reducible repeat (first | refine blk_drewN ?_ _ | refine blk_drew ?_ | refine blk_alloc ?_ _)); exact BK315.out) hb); have n1_ := Aside0.mk (below_step (by repeat (first | (with_reducible first | exact HB.out | apply below_alloc | apply pw_below_drewN | apply below_drew1 | refine below_set ?_ GE315.out) | exact HB.out)) hb); clear BK315; clear HB; have BK315 := n0_; have HB := n1_; clear n0_ n1_; (try clear hb); (try clear hb2); (try clear hk); (try clear hi)))
                    go_roundg k2
                    case measure => have := HJ2.out; have := HK2.out; omega
                    case rel => exact ⟨(wrap64 (x17_2 + 1)), (by first | rfl | (simp; done) | (simp [*]; done)), H', ⟨by have := HJ2.out; have := HK2.out; omega⟩, ⟨by repeat (first | (with_reducible first | exact HB.out | apply below_alloc | apply pw_below_drewN | apply below_drew1 | refine below_set ?_ GE315.out) | exact HB.out)⟩⟩
                  · replace c10 := Bool.eq_false_iff.mpr c10
                    subst c10
                    have H1 : (some false) = some r := by rw [if_neg (show ¬ (false = true) by decide)] at H; exact H
                    clear H
                    have H := H1
                    clear H1
                    obtain rfl := Option.some.inj H
                    have p314 : 0 ≤ (x17_2 : Int) := of_decide_eq_true (by first | (with_reducible assumption) | assumption)
                    have q314 : x17_2 < (l0.length : Int) := of_decide_eq_true (by first | (with_reducible assumption) | assumption)
                    obtain ⟨ad314, e314, hx314_0, hx314_1, hx314_2, hx314_3, hx314_4, hx314_5, hx314_6, hx314_7, hx314_8, hx314_9⟩ := at_T45 HR0.out x17_2 p314 q314
                    cases e314
                    replace hx314_0 := (HB.out.cell (World.block_lt_of_cell? w _ hx314_0)).trans hx314_0
                    replace hx314_1 := (HB.out.cell (World.block_lt_of_cell? w _ hx314_1)).trans hx314_1
                    replace hx314_2 := (HB.out.cell (World.block_lt_of_cell? w _ hx314_2)).trans hx314_2
                    replace hx314_3 := (HB.out.cell (World.block_lt_of_cell? w _ hx314_3)).trans hx314_3
                    replace hx314_4 := (HB.out.cell (World.block_lt_of_cell? w _ hx314_4)).trans hx314_4
                    replace hx314_5 := (HB.out.cell (World.block_lt_of_cell? w _ hx314_5)).trans hx314_5
                    replace hx314_6 := (HB.out.cell (World.block_lt_of_cell? w _ hx314_6)).trans hx314_6
                    replace hx314_7 := (HB.out.cell (World.block_lt_of_cell? w _ hx314_7)).trans hx314_7
                    replace hx314_8 := (HB.out.cell (World.block_lt_of_cell? w _ hx314_8)).trans hx314_8
                    replace hx314_9 := (HB.out.cell (World.block_lt_of_cell? w _ hx314_9)).trans hx314_9
                    replace p314 := eq_true p314
                    replace q314 := eq_true q314
                    go_wp2_with (first | ((with_reducible refine gate_dst (N := 6) rfl ?_); (try (refine gate_guard (by rfl) ?_; dsimp only)); refine box_event ?hg (N := 6) ?hd (cs := #[.int .i64 0, .int .i64 0, .int .i64 0, .int .i64 0, .int .i64 0, .string (⟨#[]⟩ : ByteArray), .string (⟨#[]⟩ : ByteArray), .string (⟨#[]⟩ : ByteArray), .string (⟨#[]⟩ : ByteArray), .int .i64 0]) (t := 45) ?hr ?_; (case hd => rfl); (case hg => rfl); (case hr => first | (go_simp; done) | (go_simp; rfl)); intro gb315 hg w14 hbox hb; have n0_ := Aside0.mk (below_step (by repeat (first | (with_reducible first | exact HB.out | apply below_alloc | apply pw_below_drewN | apply below_drew1) | exact HB.out)) hb); have n1_ := Aside0.mk (hbox); have n2_ := Aside0.mk ((by rw [hg]; exact (below_size (by repeat (first | (with_reducible first | exact HB.out | apply below_alloc | apply pw_below_drewN | apply below_drew1) | exact HB.out))) : w.heap.size ≤ gb315)); have n3_ := Aside0.mk ((by rw [hg]; exact (below_size (by repeat (first | (with_reducible first | exact HB.out | apply below_alloc | apply pw_below_drewN | apply below_drew1) | exact HB.out))) : w.heap.size ≤ gb315)); clear HB; have HB := n0_; have BK315 := n1_; have GW315 := n2_; have GE315 := n3_; clear n0_ n1_ n2_ n3_; clear hb hbox hg; have hcz15_0 : w14.cell? ⟨gb315, 0, none⟩ = some (.int .i64 0) := (blk_cell BK315.out 0).trans rfl; have hcz15_1 : w14.cell? ⟨gb315, 1, none⟩ = some (.int .i64 0) := (blk_cell BK315.out 1).trans rfl; have hcz15_2 : w14.cell? ⟨gb315, 2, none⟩ = some (.int .i64 0) := (blk_cell BK315.out 2).trans rfl; have hcz15_3 : w14.cell? ⟨gb315, 3, none⟩ = some (.int .i64 0) := (blk_cell BK315.out 3).trans rfl; have hcz15_4 : w14.cell? ⟨gb315, 4, none⟩ = some (.int .i64 0) := (blk_cell BK315.out 4).trans rfl; have hcz15_5 : w14.cell? ⟨gb315, 5, none⟩ = some (.string (⟨#[]⟩ : ByteArray)) := (blk_cell BK315.out 5).trans rfl; have hcz15_6 : w14.cell? ⟨gb315, 6, none⟩ = some (.string (⟨#[]⟩ : ByteArray)) := (blk_cell BK315.out 6).trans rfl; have hcz15_7 : w14.cell? ⟨gb315, 7, none⟩ = some (.string (⟨#[]⟩ : ByteArray)) := (blk_cell BK315.out 7).trans rfl; have hcz15_8 : w14.cell? ⟨gb315, 8, none⟩ = some (.string (⟨#[]⟩ : ByteArray)) := (blk_cell BK315.out 8).trans rfl; have hcz15_9 : w14.cell? ⟨gb315, 9, none⟩ = some (.int .i64 0) := (blk_cell BK315.out 9).trans rfl; have hfz15_0 := blk_frozen BK315.out 0; have hfz15_1 := blk_frozen BK315.out 1; have hfz15_2 := blk_frozen BK315.out 2; have hfz15_3 := blk_frozen BK315.out 3; have hfz15_4 := blk_frozen BK315.out 4; have hfz15_5 := blk_frozen BK315.out 5; have hfz15_6 := blk_frozen BK315.out 6; have hfz15_7 := blk_frozen BK315.out 7; have hfz15_8 := blk_frozen BK315.out 8; have hfz15_9 := blk_frozen BK315.out 9) | ((with_reducible refine gate_callee (f := 71) rfl ?_); refine goesL_ (some 23) rfl rfl Tryd.func71 (by kernel_rfl) rfl #[.agg #[.int .i64 ((rd_T45 l0 x17_2).f0), .int .i64 ((rd_T45 l0 x17_2).f1), .int .i64 ((rd_T45 l0 x17_2).f2), .int .i64 ((rd_T45 l0 x17_2).f3), .int .i64 ((rd_T45 l0 x17_2).f4), .string ((rd_T45 l0 x17_2).f5), .string ((rd_T45 l0 x17_2).f6), .string ((rd_T45 l0 x17_2).f7), .string ((rd_T45 l0 x17_2).f8), .int .i64 ((rd_T45 l0 x17_2).f9)], .bool a1] rfl (by (try simp only [List.map_toArray, List.map_cons, List.map_nil]); first | done | rfl | (simp only [List.length_drop, List.length_take]; rfl)) ?_; (with_reducible refine (tree_may.calls k2 ((rd_T45 l0 x17_2).f0) ((rd_T45 l0 x17_2).f1) ((rd_T45 l0 x17_2).f2) ((rd_T45 l0 x17_2).f3) ((rd_T45 l0 x17_2).f4) ((rd_T45 l0 x17_2).f5) ((rd_T45 l0 x17_2).f6) ((rd_T45 l0 x17_2).f7) ((rd_T45 l0 x17_2).f8) ((rd_T45 l0 x17_2).f9) a1 false _ A9.out).mono ?_); rintro e w16 ⟨rfl, hb⟩; refine ⟨_, rfl, ?_⟩; have n0_ := Aside0.mk (blk_below (g := gb315) (o := .cells #[.int .i64 ((rd_T45 l0 x17_2).f0), .int .i64 ((rd_T45 l0 x17_2).f1), .int .i64 ((rd_T45 l0 x17_2).f2), .int .i64 ((rd_T45 l0 x17_2).f3), .int .i64 ((rd_T45 l0 x17_2).f4), .string ((rd_T45 l0 x17_2).f5), .string ((rd_T45 l0 x17_2).f6), .string ((rd_T45 l0 x17_2).f7), .string ((rd_T45 l0 x17_2).f8), .int .i64 ((rd_T45 l0 x17_2).f9)] 45 (0, 0)) (by (with_reducible repeat (first | refine blk_drewN ?_ _ | refine blk_drew ?_ | refine blk_alloc ?_ _)); refine blk_put (cs := #[.int .i64 ((rd_T45 l0 x17_2).f0), .int .i64 ((rd_T45 l0 x17_2).f1), .int .i64 ((rd_T45 l0 x17_2).f2), .int .i64 ((rd_T45 l0 x17_2).f3), .int .i64 ((rd_T45 l0 x17_2).f4), .string ((rd_T45 l0 x17_2).f5), .string ((rd_T45 l0 x17_2).f6), .string ((rd_T45 l0 x17_2).f7), .string ((rd_T45 l0 x17_2).f8), .int .i64 0]) ?_ 9 _ rfl; (with_reducible repeat (first | refine blk_drewN ?_ _ | refine blk_drew ?_ | refine blk_alloc ?_ _)); refine blk_put (cs := #[.int .i64 ((rd_T45 l0 x17_2).f0), .int .i64 ((rd_T45 l0 x17_2).f1), .int .i64 ((rd_T45 l0 x17_2).f2), .int .i64 ((rd_T45 l0 x17_2).f3), .int .i64 ((rd_T45 l0 x17_2).f4), .string ((rd_T45 l0 x17_2).f5), .string ((rd_T45 l0 x17_2).f6), .string ((rd_T45 l0 x17_2).f7), .string (⟨#[]⟩ : ByteArray), .int .i64 0]) ?_ 8 _ rfl; (with_reducible repeat (first | refine blk_drewN ?_ _ | refine blk_drew ?_ | refine blk_alloc ?_ _)); refine blk_put (cs := #[.int .i64 ((rd_T45 l0 x17_2).f0), .int .i64 ((rd_T45 l0 x17_2).f1), .int .i64 ((rd_T45 l0 x17_2).f2), .int .i64 ((rd_T45 l0 x17_2).f3), .int .i64 ((rd_T45 l0 x17_2).f4), .string ((rd_T45 l0 x17_2).f5), .string ((rd_T45 l0 x17_2).f6), .string (⟨#[]⟩ : ByteArray), .string (⟨#[]⟩ : ByteArray), .int .i64 0]) ?_ 7 _ rfl; (with_reducible repeat (first | refine blk_drewN ?_ _ | refine blk_drew ?_ | refine blk_alloc ?_ _)); refine blk_put (cs := #[.int .i64 ((rd_T45 l0 x17_2).f0), .int .i64 ((rd_T45 l0 x17_2).f1), .int .i64 ((rd_T45 l0 x17_2).f2), .int .i64 ((rd_T45 l0 x17_2).f3), .int .i64 ((rd_T45 l0 x17_2).f4), .string ((rd_T45 l0 x17_2).f5), .string (⟨#[]⟩ : ByteArray), .string (⟨#[]⟩ : ByteArray), .string (⟨#[]⟩ : ByteArray), .int .i64 0]) ?_ 6 _ rfl; (with_reducible repeat (first | refine blk_drewN ?_ _ | refine blk_drew ?_ | refine blk_alloc ?_ _)); refine blk_put (cs := #[.int .i64 ((rd_T45 l0 x17_2).f0), .int .i64 ((rd_T45 l0 x17_2).f1), .int .i64 ((rd_T45 l0 x17_2).f2), .int .i64 ((rd_T45 l0 x17_2).f3), .int .i64 ((rd_T45 l0 x17_2).f4), .string (⟨#[]⟩ : ByteArray), .string (⟨#[]⟩ : ByteArray), .string (⟨#[]⟩ : ByteArray), .string (⟨#[]⟩ : ByteArray), .int .i64 0]) ?_ 5 _ rfl; (with_reducible repeat (first | refine blk_drewN ?_ _ | refine blk_drew ?_ | refine blk_alloc ?_ _)); refine blk_put (cs := #[.int .i64 ((rd_T45 l0 x17_2).f0), .int .i64 ((rd_T45 l0 x17_2).f1), .int .i64 ((rd_T45 l0 x17_2).f2), .int .i64 ((rd_T45 l0 x17_2).f3), .int .i64 0, .string (⟨#[]⟩ : ByteArray), .string (⟨#[]⟩ : ByteArray), .string (⟨#[]⟩ : ByteArray), .string (⟨#[]⟩ : ByteArray), .int .i64 0]) ?_ 4 _ rfl; (with_reducible repeat (first | refine blk_drewN ?_ _ | refine blk_drew ?_ | refine blk_alloc ?_ _)); refine blk_put (cs := #[.int .i64 ((rd_T45 l0 x17_2).f0), .int .i64 ((rd_T45 l0 x17_2).f1), .int .i64 ((rd_T45 l0 x17_2).f2), .int .i64 0, .int .i64 0, .string (⟨#[]⟩ : ByteArray), .string (⟨#[]⟩ : ByteArray), .string (⟨#[]⟩ : ByteArray), .string (⟨#[]⟩ : ByteArray), .int .i64 0]) ?_ 3 _ rfl; (with_reducible repeat (first | refine blk_drewN ?_ _ | refine blk_drew ?_ | refine blk_alloc ?_ _)); refine blk_put (cs := #[.int .i64 ((rd_T45 l0 x17_2).f0), .int .i64 ((rd_T45 l0 x17_2).f1), .int .i64 0, .int .i64 0, .int .i64 0, .string (⟨#[]⟩ : ByteArray), .string (⟨#[]⟩ : ByteArray), .string (⟨#[]⟩ : ByteArray), .string (⟨#[]⟩ : ByteArray), .int .i64 0]) ?_ 2 _ rfl; (with_reducible repeat (first | refine blk_drewN ?_ _ | refine blk_drew ?_ | refine blk_alloc ?_ _)); refine blk_put (cs := #[.int .i64 ((rd_T45 l0 x17_2).f0), .int .i64 0, .int .i64 0, .int .i64 0, .int .i64 0, .string (⟨#[]⟩ : ByteArray), .string (⟨#[]⟩ : ByteArray), .string (⟨#[]⟩ : ByteArray), .string (⟨#[]⟩ : ByteArray), .int .i64 0]) ?_ 1 _ rfl; (with_reducible repeat (first | refine blk_drewN ?_ _ | refine blk_drew ?_ | refine blk_alloc ?_ _)); refine blk_put (cs := #[.int .i64 0, .int .i64 0, .int .i64 0, .int .i64 0, .int .i64 0, .string (⟨#[]⟩ : ByteArray), .string (⟨#[]⟩ : ByteArray), .string (⟨#[]⟩ : ByteArray), .string (⟨#[]⟩ : ByteArray), .int .i64 0]) ?_ 0 _ rfl; (with_reducible repeat (first | refine blk_drewN ?_ _ | refine blk_drew ?_ | refine blk_alloc ?_ _)); exact BK315.out) hb); have n1_ := Aside0.mk (below_step (by repeat (first | (with_reducible first | exact HB.out | apply below_alloc | apply pw_below_drewN | apply below_drew1 | refine below_set ?_ GE315.out) | exact HB.out)) hb); clear BK315; clear HB; have BK315 := n0_; have HB := n1_; clear n0_ n1_; (try clear hb); (try clear hb2); (try clear hk); (try clear hi)))
                    go_ret
                    exact ⟨by first | rfl | (simp [errW_none, errW_some] <;> rfl) | (simp [*, errW_none, errW_some] <;> rfl), by repeat (first | (with_reducible first | exact HB.out | apply below_alloc | apply pw_below_drewN | apply below_drew1 | refine below_set ?_ GE315.out) | exact HB.out)⟩
                · rw [if_neg c8] at H
                  exact absurd H (by simp)
              · rw [if_neg c7] at H
                exact absurd H (by simp)
            · rw [if_neg c6] at H
              have c6b0 : decide (x17_2 < (l0.length : Int)) = false := decide_eq_false c6
              clear c6
              replace H := Option.bind_eq_some_iff.mp H
              obtain ⟨t317, A170, H⟩ := H
              replace H : (some (t317 == 0)) = some r := H
              have A17 := Aside0.mk A170
              clear A170
              obtain rfl := Option.some.inj H
              go_wp2_with (first | ((with_reducible refine gate_callee (f := 42) rfl ?_); refine goesL_ (some 30) rfl rfl Tryd.func42 (by kernel_rfl) rfl #[.slice A0 l0.length c0, .int .i64 (wrap64 ((l0.length : Int) - 1))] rfl (by (try simp only [List.map_toArray, List.map_cons, List.map_nil]); first | done | rfl | (simp only [List.length_drop, List.length_take]; rfl)) ?_; (with_reducible refine (tree_Begin.calls k2 _ _ l0 (wrap64 ((l0.length : Int) - 1)) t317 _ ?side1 ?side2 A17.out).mono ?_); (case side1 => repeat (first | exact (Kd.C_below HR0.out HB.out) | (with_reducible refine Kd.C_alloc ?_ _) | (with_reducible refine Kd.C_drewN ?_ _) | (with_reducible refine Kd.C_drew ?_))); (case side2 => exact HC0.out); rintro e w18 ⟨rfl, hb⟩; refine ⟨_, rfl, ?_⟩; have n0_ := Aside0.mk (below_step (by repeat (first | (with_reducible first | exact HB.out | apply below_alloc | apply pw_below_drewN | apply below_drew1) | exact HB.out)) hb); clear HB; have HB := n0_; clear n0_; (try clear hb); (try clear hb2); (try clear hk); (try clear hi)))
              go_ret
              exact ⟨by first | rfl | (simp [errW_none, errW_some] <;> rfl) | (simp [*, errW_none, errW_some] <;> rfl), by repeat (first | (with_reducible first | exact HB.out | apply below_alloc | apply pw_below_drewN | apply below_drew1) | exact HB.out)⟩

end Go.Proofs.YtnogfhhfklkbiaaDoor.H

namespace Go.Proofs.YtnogfhhfklkbiaaDoor.H
open Go.RowKit Go.Proofs.YtnogfhhfklkbiaaDoorW.PrintWords Go.Proofs.YtnogfhhfklkbiaaDoorW.PrintLast Go.Proofs.YtnogfhhfklkbiaaDoorW.PrintMore
attribute [local go_sem] max2_int min2_int max_two min_two max_three min_three max_four min_four   -- for this text's walks alone
set_option linter.unusedVariables false
set_option linter.unusedSimpArgs false

/-! ### tree_there: function 38 -/
def tree_there.f (k : Nat) (l0 : List (S45)) (a1 : Int) : Option (Bool) := (tree_Shaped.f k l0 true).bind fun t318 => (if t318 = true then (if a1 ≥ 0 then (some (decide (a1 < (l0.length : Int)))) else (some false)) else ((tree_Shaped.f k l0 false).bind fun t319 => (if t319 = true then (if a1 ≥ 0 then (some (decide (a1 < (l0.length : Int)))) else (some false)) else (some false))))
theorem tree_there.mono : ∀ a0 a1 k, LeO (tree_there.f k a0 a1) (tree_there.f (k + 1) a0 a1) := by
  intro a0 a1 k
  unfold tree_there.f
  repeat' first
      | (with_reducible exact tree_Shaped.mono _ _ _)
      | (with_reducible exact LeO.refl _)
      | (with_reducible exact LeO.none _)
      | (with_reducible refine LeO.ite ?_ ?_)
      | (with_reducible refine LeO.bind ?_ (fun _ => ?_))
      | exact tree_Shaped.mono _ _ _
      | exact LeO.none _
      | refine LeO.ite ?_ ?_
      | refine LeO.bind ?_ (fun _ => ?_)
set_option maxHeartbeats 8000000 in
set_option maxRecDepth 100000 in
theorem tree_there.calls (k : Nat) (A0 : Option Addr) (c0 : Nat) (l0 : List (S45)) (a1 : Int) (r : Bool) (w : World) (hr0 : Kd.C k45 w A0 l0.length l0) (hc0 : l0.length ≤ c0) (h : tree_there.f k l0 a1 = some r) :
    Calls Tryd.prog 38 #[.slice A0 l0.length c0, .int .i64 a1] w fun e w' => e = .returned (.bool r) ∧ Below w.heap.size w w' := by
  have HR0 := Aside0.mk hr0
  have HC0 := Aside0.mk hc0
  clear hr0 hc0
  have HB := Aside0.mk (Below.refl w.heap.size w)
  have H : ((tree_Shaped.f k l0 true).bind fun t318 => (if t318 = true then (if a1 ≥ 0 then (some (decide (a1 < (l0.length : Int)))) else (some false)) else ((tree_Shaped.f k l0 false).bind fun t319 => (if t319 = true then (if a1 ≥ 0 then (some (decide (a1 < (l0.length : Int)))) else (some false)) else (some false))))) = some r := h
  clear h
  replace H := Option.bind_eq_some_iff.mp H
  obtain ⟨t318, A30, H⟩ := H
  replace H : (if t318 = true then (if a1 ≥ 0 then (some (decide (a1 < (l0.length : Int)))) else (some false)) else ((tree_Shaped.f k l0 false).bind fun t319 => (if t319 = true then (if a1 ≥ 0 then (some (decide (a1 < (l0.length : Int)))) else (some false)) else (some false)))) = some r := H
  have A3 := Aside0.mk A30
  clear A30
  by_cases c4 : t318 = true
  · subst c4
    have H1 : (if a1 ≥ 0 then (some (decide (a1 < (l0.length : Int)))) else (some false)) = some r := by rw [if_pos rfl] at H; exact H
    clear H
    have H := H1
    clear H1
    by_cases c5 : a1 ≥ 0
    · rw [if_pos c5] at H
      have c5b0 : decide (0 ≤ a1) = true := decide_eq_true c5
      clear c5
      obtain rfl := Option.some.inj H
      go_enter Tryd.func38, Tryd.ntmps38
      go_wp2_with (first | ((with_reducible refine gate_callee (f := 47) rfl ?_); refine goesL_ (some 6) rfl rfl Tryd.func47 (by kernel_rfl) rfl #[.slice A0 l0.length c0, .bool true] rfl (by (try simp only [List.map_toArray, List.map_cons, List.map_nil]); first | done | rfl | (simp only [List.length_drop, List.length_take]; rfl)) ?_; (with_reducible refine (tree_Shaped.calls k _ _ l0 true true _ ?side1 ?side2 A3.out).mono ?_); (case side1 => repeat (first | exact HR0.out | (with_reducible refine Kd.C_alloc ?_ _) | (with_reducible refine Kd.C_drewN ?_ _) | (with_reducible refine Kd.C_drew ?_))); (case side2 => exact HC0.out); rintro e w6 ⟨rfl, hb⟩; refine ⟨_, rfl, ?_⟩; have n0_ := Aside0.mk (below_step (by repeat (first | (with_reducible first | exact HB.out | apply below_alloc | apply pw_below_drewN | apply below_drew1) | exact HB.out)) hb); clear HB; have HB := n0_; clear n0_; (try clear hb); (try clear hb2); (try clear hk); (try clear hi)))
      go_ret
      exact ⟨by first | rfl | (simp [errW_none, errW_some] <;> rfl) | (simp [*, errW_none, errW_some] <;> rfl), by repeat (first | (with_reducible first | exact HB.out | apply below_alloc | apply pw_below_drewN | apply below_drew1) | exact HB.out)⟩
    · rw [if_neg c5] at H
      have c5b0 : decide (0 ≤ a1) = false := decide_eq_false c5
      clear c5
      obtain rfl := Option.some.inj H
      go_enter Tryd.func38, Tryd.ntmps38
      go_wp2_with (first | ((with_reducible refine gate_callee (f := 47) rfl ?_); refine goesL_ (some 6) rfl rfl Tryd.func47 (by kernel_rfl) rfl #[.slice A0 l0.length c0, .bool true] rfl (by (try simp only [List.map_toArray, List.map_cons, List.map_nil]); first | done | rfl | (simp only [List.length_drop, List.length_take]; rfl)) ?_; (with_reducible refine (tree_Shaped.calls k _ _ l0 true true _ ?side1 ?side2 A3.out).mono ?_); (case side1 => repeat (first | exact HR0.out | (with_reducible refine Kd.C_alloc ?_ _) | (with_reducible refine Kd.C_drewN ?_ _) | (with_reducible refine Kd.C_drew ?_))); (case side2 => exact HC0.out); rintro e w7 ⟨rfl, hb⟩; refine ⟨_, rfl, ?_⟩; have n0_ := Aside0.mk (below_step (by repeat (first | (with_reducible first | exact HB.out | apply below_alloc | apply pw_below_drewN | apply below_drew1) | exact HB.out)) hb); clear HB; have HB := n0_; clear n0_; (try clear hb); (try clear hb2); (try clear hk); (try clear hi)))
      go_ret
      exact ⟨by first | rfl | (simp [errW_none, errW_some] <;> rfl) | (simp [*, errW_none, errW_some] <;> rfl), by repeat (first | (with_reducible first | exact HB.out | apply below_alloc | apply pw_below_drewN | apply below_drew1) | exact HB.out)⟩
  · replace c4 := Bool.eq_false_iff.mpr c4
    subst c4
    have H1 : ((tree_Shaped.f k l0 false).bind fun t319 => (if t319 = true then (if a1 ≥ 0 then (some (decide (a1 < (l0.length : Int)))) else (some false)) else (some false))) = some r := by rw [if_neg (show ¬ (false = true) by decide)] at H; exact H
    clear H
    have H := H1
    clear H1
    replace H := Option.bind_eq_some_iff.mp H
    obtain ⟨t319, A80, H⟩ := H
    replace H : (if t319 = true then (if a1 ≥ 0 then (some (decide (a1 < (l0.length : Int)))) else (some false)) else (some false)) = some r := H
    have A8 := Aside0.mk A80
    clear A80
    by_cases c9 : t319 = true
    · subst c9
      have H1 : (if a1 ≥ 0 then (some (decide (a1 < (l0.length : Int)))) else (some false)) = some r := by rw [if_pos rfl] at H; exact H
      clear H
      have H := H1
      clear H1
      by_cases c10 : a1 ≥ 0
      · rw [if_pos c10] at H
        have c10b0 : decide (0 ≤ a1) = true := decide_eq_true c10
        clear c10
        obtain rfl := Option.some.inj H
        go_enter Tryd.func38, Tryd.ntmps38
        go_wp2_with (first | ((with_reducible refine gate_callee (f := 47) rfl ?_); refine goesL_ (some 6) rfl rfl Tryd.func47 (by kernel_rfl) rfl #[.slice A0 l0.length c0, .bool true] rfl (by (try simp only [List.map_toArray, List.map_cons, List.map_nil]); first | done | rfl | (simp only [List.length_drop, List.length_take]; rfl)) ?_; (with_reducible refine (tree_Shaped.calls k _ _ l0 true false _ ?side1 ?side2 A3.out).mono ?_); (case side1 => repeat (first | exact HR0.out | (with_reducible refine Kd.C_alloc ?_ _) | (with_reducible refine Kd.C_drewN ?_ _) | (with_reducible refine Kd.C_drew ?_))); (case side2 => exact HC0.out); rintro e w11 ⟨rfl, hb⟩; refine ⟨_, rfl, ?_⟩; have n0_ := Aside0.mk (below_step (by repeat (first | (with_reducible first | exact HB.out | apply below_alloc | apply pw_below_drewN | apply below_drew1) | exact HB.out)) hb); clear HB; have HB := n0_; clear n0_; (try clear hb); (try clear hb2); (try clear hk); (try clear hi)) | (go_at_call 47; (with_reducible refine (tree_Shaped.calls k _ _ l0 false true _ ?side1 ?side2 A8.out).mono ?_); (case side1 => repeat (first | exact (Kd.C_below HR0.out HB.out) | (with_reducible refine Kd.C_alloc ?_ _) | (with_reducible refine Kd.C_drewN ?_ _) | (with_reducible refine Kd.C_drew ?_))); (case side2 => exact HC0.out); rintro e w12 ⟨rfl, hb⟩; have n0_ := Aside0.mk (below_step (by repeat (first | (with_reducible first | exact HB.out | apply below_alloc | apply pw_below_drewN | apply below_drew1) | exact HB.out)) hb); clear HB; have HB := n0_; clear n0_; (try clear hb); (try clear hb2); (try clear hk); (try clear hi)))
        go_ret
        exact ⟨by first | rfl | (simp [errW_none, errW_some] <;> rfl) | (simp [*, errW_none, errW_some] <;> rfl), by repeat (first | (with_reducible first | exact HB.out | apply below_alloc | apply pw_below_drewN | apply below_drew1) | exact HB.out)⟩
      · rw [if_neg c10] at H
        have c10b0 : decide (0 ≤ a1) = false := decide_eq_false c10
        clear c10
        obtain rfl := Option.some.inj H
        go_enter Tryd.func38, Tryd.ntmps38
        go_wp2_with (first | ((with_reducible refine gate_callee (f := 47) rfl ?_); refine goesL_ (some 6) rfl rfl Tryd.func47 (by kernel_rfl) rfl #[.slice A0 l0.length c0, .bool true] rfl (by (try simp only [List.map_toArray, List.map_cons, List.map_nil]); first | done | rfl | (simp only [List.length_drop, List.length_take]; rfl)) ?_; (with_reducible refine (tree_Shaped.calls k _ _ l0 true false _ ?side1 ?side2 A3.out).mono ?_); (case side1 => repeat (first | exact HR0.out | (with_reducible refine Kd.C_alloc ?_ _) | (with_reducible refine Kd.C_drewN ?_ _) | (with_reducible refine Kd.C_drew ?_))); (case side2 => exact HC0.out); rintro e w13 ⟨rfl, hb⟩; refine ⟨_, rfl, ?_⟩; have n0_ := Aside0.mk (below_step (by repeat (first | (with_reducible first | exact HB.out | apply below_alloc | apply pw_below_drewN | apply below_drew1) | exact HB.out)) hb); clear HB; have HB := n0_; clear n0_; (try clear hb); (try clear hb2); (try clear hk); (try clear hi)) | (go_at_call 47; (with_reducible refine (tree_Shaped.calls k _ _ l0 false true _ ?side1 ?side2 A8.out).mono ?_); (case side1 => repeat (first | exact (Kd.C_below HR0.out HB.out) | (with_reducible refine Kd.C_alloc ?_ _) | (with_reducible refine Kd.C_drewN ?_ _) | (with_reducible refine Kd.C_drew ?_))); (case side2 => exact HC0.out); rintro e w14 ⟨rfl, hb⟩; have n0_ := Aside0.mk (below_step (by repeat (first | (with_reducible first | exact HB.out | apply below_alloc | apply pw_below_drewN | apply below_drew1) | exact HB.out)) hb); clear HB; have HB := n0_; clear n0_; (try clear hb); (try clear hb2); (try clear hk); (try clear hi)))
        go_ret
        exact ⟨by first | rfl | (simp [errW_none, errW_some] <;> rfl) | (simp [*, errW_none, errW_some] <;> rfl), by repeat (first | (with_reducible first | exact HB.out | apply below_alloc | apply pw_below_drewN | apply below_drew1) | exact HB.out)⟩
    · replace c9 := Bool.eq_false_iff.mpr c9
      subst c9
      have H1 : (some false) = some r := by rw [if_neg (show ¬ (false = true) by decide)] at H; exact H
      clear H
      have H := H1
      clear H1
      obtain rfl := Option.some.inj H
      go_enter Tryd.func38, Tryd.ntmps38
      go_wp2_with (first | ((with_reducible refine gate_callee (f := 47) rfl ?_); refine goesL_ (some 6) rfl rfl Tryd.func47 (by kernel_rfl) rfl #[.slice A0 l0.length c0, .bool true] rfl (by (try simp only [List.map_toArray, List.map_cons, List.map_nil]); first | done | rfl | (simp only [List.length_drop, List.length_take]; rfl)) ?_; (with_reducible refine (tree_Shaped.calls k _ _ l0 true false _ ?side1 ?side2 A3.out).mono ?_); (case side1 => repeat (first | exact HR0.out | (with_reducible refine Kd.C_alloc ?_ _) | (with_reducible refine Kd.C_drewN ?_ _) | (with_reducible refine Kd.C_drew ?_))); (case side2 => exact HC0.out); rintro e w15 ⟨rfl, hb⟩; refine ⟨_, rfl, ?_⟩; have n0_ := Aside0.mk (below_step (by repeat (first | (with_reducible first | exact HB.out | apply below_alloc | apply pw_below_drewN | apply below_drew1) | exact HB.out)) hb); clear HB; have HB := n0_; clear n0_; (try clear hb); (try clear hb2); (try clear hk); (try clear hi)) | (go_at_call 47; (with_reducible refine (tree_Shaped.calls k _ _ l0 false false _ ?side1 ?side2 A8.out).mono ?_); (case side1 => repeat (first | exact (Kd.C_below HR0.out HB.out) | (with_reducible refine Kd.C_alloc ?_ _) | (with_reducible refine Kd.C_drewN ?_ _) | (with_reducible refine Kd.C_drew ?_))); (case side2 => exact HC0.out); rintro e w16 ⟨rfl, hb⟩; have n0_ := Aside0.mk (below_step (by repeat (first | (with_reducible first | exact HB.out | apply below_alloc | apply pw_below_drewN | apply below_drew1) | exact HB.out)) hb); clear HB; have HB := n0_; clear n0_; (try clear hb); (try clear hb2); (try clear hk); (try clear hi)))
      go_ret
      exact ⟨by first | rfl | (simp [errW_none, errW_some] <;> rfl) | (simp [*, errW_none, errW_some] <;> rfl), by repeat (first | (with_reducible first | exact HB.out | apply below_alloc | apply pw_below_drewN | apply below_drew1) | exact HB.out)⟩

end Go.Proofs.YtnogfhhfklkbiaaDoor.H

namespace Go.Proofs.YtnogfhhfklkbiaaDoor.H
open Go.RowKit Go.Proofs.YtnogfhhfklkbiaaDoorW.PrintWords Go.Proofs.YtnogfhhfklkbiaaDoorW.PrintLast Go.Proofs.YtnogfhhfklkbiaaDoorW.PrintMore
attribute [local go_sem] max2_int min2_int max_two min_two max_three min_three max_four min_four   -- for this text's walks alone
set_option linter.unusedVariables false
set_option linter.unusedSimpArgs false

/-! ### slices_Clone_Node: function 43 -/
-- for slices.Clone[[]trammel/api.Node,trammel/api.Node]
-- making
-- import Derived.Lib.SliceRun
set_option maxHeartbeats 8000000 in
set_option maxRecDepth 100000 in
theorem clone_calls (ad : Addr) (c0 : Nat) (l0 : List S45) (w : World) (hr0 : Kd.C k45 w (some ad) l0.length l0) (hlim : l0.length < 1256584717458) :
    Calls Tryd.prog 43 #[.slice (some ad) l0.length c0] w fun e w' => ∃ v0_ : Value, e = .returned (v0_) ∧ Kd.R k45 45 w' w.heap.size (fun _ => True) v0_ l0 ∧ Below w.heap.size w w' := by
  have HR0 := Aside0.mk hr0
  have LMc2 := Aside0.mk hlim
  clear hr0 hlim
  have HB := Aside0.mk (Below.refl w.heap.size w)
  have info45 : (Tryd.prog.info? 45).map (fun i => (i.zero, i.size, i.bytes)) = some (some (.agg #[(.int .i64 0), (.int .i64 0), (.int .i64 0), (.int .i64 0), (.int .i64 0), (.string ⟨#[]⟩), (.string ⟨#[]⟩), (.string ⟨#[]⟩), (.string ⟨#[]⟩), (.int .i64 0)]), 10, 112) := by kernel_rfl
  have hnil := fun w => Lib.run_eql_slice_nil (P := Tryd.prog) w 23 45 (some ad) l0.length c0 0 0 Tryd.underlying23
  go_enter Tryd.func43, Tryd.ntmps43
  go_wp2_with (first | ((with_reducible refine gate_dst (N := 5) rfl ?_); refine Kd.R_lit k45 _ 45 ?hg (N := 5) ?hd (xs := ([] : List (S45))) (inner := []) (ok := fun _ => True) (okp := fun _ => True) ?hr ?hp (fun _ hk => hk) trivial (Below.refl _ _) (Nat.le_refl _) (by simp) ?_; (case hd => rfl); (case hg => rfl); (case hr => first | (go_simp; done) | (go_simp; rfl)); (case hp => exact (Reps.none _ _)); intro v296 w3 ho4 hb hg_ hnew_; clear hg_ hnew_; have n0_ := Aside0.mk (Kd.R_lower ho4 (below_size (by repeat (first | (with_reducible first | exact HB.out | apply below_alloc | apply pw_below_drewN | apply below_drew1) | exact HB.out)))); have n1_ := Aside0.mk (below_step (by repeat (first | (with_reducible first | exact HB.out | apply below_alloc | apply pw_below_drewN | apply below_drew1) | exact HB.out)) hb); clear HB; have HO297 := n0_; have HB := n1_; clear n0_ n1_; clear hb ho4) | ((with_reducible refine gate_builtin (b := .append) (xs := #[.tmp 5, .tmp 6]) rfl ?_); at_builtin; refine Kd.R_append_rows k45 (w0 := w) w.heap.size rfl (.tmp 5) (.tmp 6) 23 45 (.agg #[(.int .i64 0), (.int .i64 0), (.int .i64 0), (.int .i64 0), (.int .i64 0), (.string ⟨#[]⟩), (.string ⟨#[]⟩), (.string ⟨#[]⟩), (.string ⟨#[]⟩), (.int .i64 0)]) 112 rfl Tryd.underlying23 info45 rfl (by decide) (by omega) v296 [] l0 _ _ _ (fun _ => True) (fun _ => False) rfl rfl ?aO ?aR (fun _ _ h => h) (fun _ h => h.elim) ?aF ?aB ?aS ?aL ?_; (case aR => repeat (first | exact (Kd.C_below HR0.out HB.out) | (with_reducible refine Kd.C_alloc ?_ _) | (with_reducible refine Kd.C_drewN ?_ _) | (with_reducible refine Kd.C_drew ?_))); (case aB => exact (by repeat (first | (with_reducible first | exact HB.out | apply below_alloc | apply pw_below_drewN | apply below_drew1) | exact HB.out))); (case aF => exact (fun _ _ => trivial)); (case aO => exact (by (with_reducible repeat (first | apply Kd.R_alloc | apply Kd.R_drewN | apply Kd.R_drew)); exact HO297.out)); (case aS => exact (below_size (by repeat (first | (with_reducible first | exact HB.out | apply below_alloc | apply pw_below_drewN | apply below_drew1) | exact HB.out)))); (case aL => have := LMc2.out; simp; omega); intro v299 w5 ho hb hg hat; rw [List.nil_append] at ho; have n0_ := Aside0.mk (hb); have n1_ := Aside0.mk (ho); clear HB; clear HO297; have HB := n0_; have HO300 := n1_; clear n0_ n1_; clear ho hb hg hat))
  go_ret
  exact ⟨_, rfl, by (with_reducible repeat (first | apply Kd.R_alloc | apply Kd.R_drewN | apply Kd.R_drew)); exact HO300.out, by repeat (first | (with_reducible first | exact HB.out | apply below_alloc | apply pw_below_drewN | apply below_drew1) | exact HB.out)⟩


end Go.Proofs.YtnogfhhfklkbiaaDoor.H
