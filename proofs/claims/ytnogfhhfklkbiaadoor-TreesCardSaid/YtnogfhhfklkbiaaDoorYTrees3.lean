/- Several texts in one: contracts of functions of the program, and what they lean on. In part written by a program of this session over the kit's print, in part by hand. -/
import Derived.Test.YtnogfhhfklkbiaaDoorYTrees2
import Derived.ChangeAlike
import Derived.RegionTactic
namespace Go.Proofs.YtnogfhhfklkbiaaDoor.H
open Go.RowKit Go.Proofs.YtnogfhhfklkbiaaDoorW.PrintWords Go.Proofs.YtnogfhhfklkbiaaDoorW.PrintLast Go.Proofs.YtnogfhhfklkbiaaDoorW.PrintMore
attribute [local go_sem] max2_int min2_int max_two min_two max_three min_three max_four min_four
set_option linter.unusedVariables false
set_option linter.unusedSimpArgs false
def IsS45 (w0 W : World) (g : Nat) (f0 : Int) (f1 : Int) (f2 : Int) (f3 : Int) (f4 : Int) (f5 : ByteArray) (f6 : ByteArray) (f7 : ByteArray) (f8 : ByteArray) (f9 : Int) : Prop := W.heap[g]? = some (.cells #[.int .i64 f0, .int .i64 f1, .int .i64 f2, .int .i64 f3, .int .i64 f4, .string f5, .string f6, .string f7, .string f8, .int .i64 f9] 45 (0, 0)) ∧ w0.heap.size ≤ g
theorem IsS45.grown {w0 W : World} {g : Nat} {f0 : Int} {f1 : Int} {f2 : Int} {f3 : Int} {f4 : Int} {f5 : ByteArray} {f6 : ByteArray} {f7 : ByteArray} {f8 : ByteArray} {f9 : Int} {W1 : World} {row : Option Nat} (h : IsS45 w0 W g f0 f1 f2 f3 f4 f5 f6 f7 f8 f9) (hw : W.grownBy W1 row) (hne : some g ≠ row) : IsS45 w0 W1 g f0 f1 f2 f3 f4 f5 f6 f7 f8 f9 := by
  obtain ⟨hb, hg⟩ := h
  exact ⟨blk_grown hb hw hne, hg⟩
theorem IsS45.kept {w0 W : World} {g : Nat} {f0 : Int} {f1 : Int} {f2 : Int} {f3 : Int} {f4 : Int} {f5 : ByteArray} {f6 : ByteArray} {f7 : ByteArray} {f8 : ByteArray} {f9 : Int} {W1 : World} {S : Nat → Prop} (h : IsS45 w0 W g f0 f1 f2 f3 f4 f5 f6 f7 f8 f9) (hk : Kept W W1 S) (hne : ¬ S g) : IsS45 w0 W1 g f0 f1 f2 f3 f4 f5 f6 f7 f8 f9 := by
  obtain ⟨hb, hg⟩ := h
  exact ⟨blk_kept hb hk hne, hg⟩
theorem IsS45.below {w0 W : World} {g : Nat} {f0 : Int} {f1 : Int} {f2 : Int} {f3 : Int} {f4 : Int} {f5 : ByteArray} {f6 : ByteArray} {f7 : ByteArray} {f8 : ByteArray} {f9 : Int} {W1 : World} (h : IsS45 w0 W g f0 f1 f2 f3 f4 f5 f6 f7 f8 f9) (hw : Below W.heap.size W W1) : IsS45 w0 W1 g f0 f1 f2 f3 f4 f5 f6 f7 f8 f9 := h.grown (grown_of_below hw none) (by simp)
theorem IsS45.alloc {w0 W : World} {g : Nat} {f0 : Int} {f1 : Int} {f2 : Int} {f3 : Int} {f4 : Int} {f5 : ByteArray} {f6 : ByteArray} {f7 : ByteArray} {f8 : ByteArray} {f9 : Int} (h : IsS45 w0 W g f0 f1 f2 f3 f4 f5 f6 f7 f8 f9) (o : Obj) : IsS45 w0 (W.alloc o) g f0 f1 f2 f3 f4 f5 f6 f7 f8 f9 := h.below (below_alloc (Below.refl _ _) o)
theorem IsS45.drewN {w0 W : World} {g : Nat} {f0 : Int} {f1 : Int} {f2 : Int} {f3 : Int} {f4 : Int} {f5 : ByteArray} {f6 : ByteArray} {f7 : ByteArray} {f8 : ByteArray} {f9 : Int} (h : IsS45 w0 W g f0 f1 f2 f3 f4 f5 f6 f7 f8 f9) (m : Nat) : IsS45 w0 (W.drewN m) g f0 f1 f2 f3 f4 f5 f6 f7 f8 f9 := h
theorem IsS45.drew {w0 W : World} {g : Nat} {f0 : Int} {f1 : Int} {f2 : Int} {f3 : Int} {f4 : Int} {f5 : ByteArray} {f6 : ByteArray} {f7 : ByteArray} {f8 : ByteArray} {f9 : Int} (h : IsS45 w0 W g f0 f1 f2 f3 f4 f5 f6 f7 f8 f9) : IsS45 w0 W.drew g f0 f1 f2 f3 f4 f5 f6 f7 f8 f9 := h
theorem IsS45.at_ {w0 W : World} {g : Nat} {f0 : Int} {f1 : Int} {f2 : Int} {f3 : Int} {f4 : Int} {f5 : ByteArray} {f6 : ByteArray} {f7 : ByteArray} {f8 : ByteArray} {f9 : Int} {w' : World} {m : Nat} (hq : W.drewN m = w') (h : IsS45 w0 W g f0 f1 f2 f3 f4 f5 f6 f7 f8 f9) : IsS45 w0 w' g f0 f1 f2 f3 f4 f5 f6 f7 f8 f9 := by subst hq; exact IsS45.drewN h m
theorem IsS45.apart {w0 W : World} {g : Nat} {f0 : Int} {f1 : Int} {f2 : Int} {f3 : Int} {f4 : Int} {f5 : ByteArray} {f6 : ByteArray} {f7 : ByteArray} {f8 : ByteArray} {f9 : Int} {α : Type} {d : Kd α} {e : Nat} {base : Nat} {ok : Nat → Prop} {v : Value} {xs : List α} (h : IsS45 w0 W g f0 f1 f2 f3 f4 f5 f6 f7 f8 f9) (ho : d.R e W base ok v xs) (ht : ∀ q, q ∈ e :: d.E → q ≠ 45) : d.R e W base (fun k => ok k ∧ k ≠ g) v xs := by
  obtain ⟨hb, hg⟩ := h
  exact Kd.R_types ho hb ht
theorem IsS45.own_ne {w0 W : World} {g : Nat} {f0 : Int} {f1 : Int} {f2 : Int} {f3 : Int} {f4 : Int} {f5 : ByteArray} {f6 : ByteArray} {f7 : ByteArray} {f8 : ByteArray} {f9 : Int} {α : Type} {d : Kd α} {e : Nat} {base : Nat} {ok : Nat → Prop} {v : Value} {xs : List α} (h : IsS45 w0 W g f0 f1 f2 f3 f4 f5 f6 f7 f8 f9) (ho : d.R e W base ok v xs) (ht : e ≠ 45) : some g ≠ v.ownBlock := by
  obtain ⟨hb, hg⟩ := h
  exact Kd.R_ne ho hb ht
theorem IsS45.lt {w0 W : World} {g : Nat} {f0 : Int} {f1 : Int} {f2 : Int} {f3 : Int} {f4 : Int} {f5 : ByteArray} {f6 : ByteArray} {f7 : ByteArray} {f8 : ByteArray} {f9 : Int} (h : IsS45 w0 W g f0 f1 f2 f3 f4 f5 f6 f7 f8 f9) : g < W.heap.size := by
  obtain ⟨hb, hg⟩ := h
  exact blk_lt hb
theorem IsS45.ge {w0 W : World} {g : Nat} {f0 : Int} {f1 : Int} {f2 : Int} {f3 : Int} {f4 : Int} {f5 : ByteArray} {f6 : ByteArray} {f7 : ByteArray} {f8 : ByteArray} {f9 : Int} (h : IsS45 w0 W g f0 f1 f2 f3 f4 f5 f6 f7 f8 f9) : w0.heap.size ≤ g := by
  obtain ⟨hb, hg⟩ := h
  exact hg
theorem IsS45.far {w0 W : World} {g : Nat} {f0 : Int} {f1 : Int} {f2 : Int} {f3 : Int} {f4 : Int} {f5 : ByteArray} {f6 : ByteArray} {f7 : ByteArray} {f8 : ByteArray} {f9 : Int} {p : Addr} (h : IsS45 w0 W g f0 f1 f2 f3 f4 f5 f6 f7 f8 f9) (hne : g ≠ p.block) (u : Value) : IsS45 w0 (W.setCell p u) g f0 f1 f2 f3 f4 f5 f6 f7 f8 f9 := by
  obtain ⟨hb, hg⟩ := h
  exact ⟨blk_far hb hne u, hg⟩
theorem cellS45_0 {W : World} {g : Nat} {f0 : Int} {f1 : Int} {f2 : Int} {f3 : Int} {f4 : Int} {f5 : ByteArray} {f6 : ByteArray} {f7 : ByteArray} {f8 : ByteArray} {f9 : Int} (h : W.heap[g]? = some (.cells #[.int .i64 f0, .int .i64 f1, .int .i64 f2, .int .i64 f3, .int .i64 f4, .string f5, .string f6, .string f7, .string f8, .int .i64 f9] 45 (0, 0))) : W.cell? ⟨g, 0, none⟩ = some (.int .i64 f0) := (blk_cell h 0).trans rfl
theorem IsS45.set_0 {w0 W : World} {g : Nat} {f0 : Int} {f1 : Int} {f2 : Int} {f3 : Int} {f4 : Int} {f5 : ByteArray} {f6 : ByteArray} {f7 : ByteArray} {f8 : ByteArray} {f9 : Int} (h : IsS45 w0 W g f0 f1 f2 f3 f4 f5 f6 f7 f8 f9) (x : Int) : IsS45 w0 (W.setCell ⟨g, 0, none⟩ (.int .i64 x)) g x f1 f2 f3 f4 f5 f6 f7 f8 f9 := by
  obtain ⟨hb, hg⟩ := h
  exact ⟨by simpa using blk_set hb 0 (.int .i64 x), hg⟩
theorem cellS45_1 {W : World} {g : Nat} {f0 : Int} {f1 : Int} {f2 : Int} {f3 : Int} {f4 : Int} {f5 : ByteArray} {f6 : ByteArray} {f7 : ByteArray} {f8 : ByteArray} {f9 : Int} (h : W.heap[g]? = some (.cells #[.int .i64 f0, .int .i64 f1, .int .i64 f2, .int .i64 f3, .int .i64 f4, .string f5, .string f6, .string f7, .string f8, .int .i64 f9] 45 (0, 0))) : W.cell? ⟨g, 1, none⟩ = some (.int .i64 f1) := (blk_cell h 1).trans rfl
theorem IsS45.set_1 {w0 W : World} {g : Nat} {f0 : Int} {f1 : Int} {f2 : Int} {f3 : Int} {f4 : Int} {f5 : ByteArray} {f6 : ByteArray} {f7 : ByteArray} {f8 : ByteArray} {f9 : Int} (h : IsS45 w0 W g f0 f1 f2 f3 f4 f5 f6 f7 f8 f9) (x : Int) : IsS45 w0 (W.setCell ⟨g, 1, none⟩ (.int .i64 x)) g f0 x f2 f3 f4 f5 f6 f7 f8 f9 := by
  obtain ⟨hb, hg⟩ := h
  exact ⟨by simpa using blk_set hb 1 (.int .i64 x), hg⟩
theorem cellS45_2 {W : World} {g : Nat} {f0 : Int} {f1 : Int} {f2 : Int} {f3 : Int} {f4 : Int} {f5 : ByteArray} {f6 : ByteArray} {f7 : ByteArray} {f8 : ByteArray} {f9 : Int} (h : W.heap[g]? = some (.cells #[.int .i64 f0, .int .i64 f1, .int .i64 f2, .int .i64 f3, .int .i64 f4, .string f5, .string f6, .string f7, .string f8, .int .i64 f9] 45 (0, 0))) : W.cell? ⟨g, 2, none⟩ = some (.int .i64 f2) := (blk_cell h 2).trans rfl
theorem IsS45.set_2 {w0 W : World} {g : Nat} {f0 : Int} {f1 : Int} {f2 : Int} {f3 : Int} {f4 : Int} {f5 : ByteArray} {f6 : ByteArray} {f7 : ByteArray} {f8 : ByteArray} {f9 : Int} (h : IsS45 w0 W g f0 f1 f2 f3 f4 f5 f6 f7 f8 f9) (x : Int) : IsS45 w0 (W.setCell ⟨g, 2, none⟩ (.int .i64 x)) g f0 f1 x f3 f4 f5 f6 f7 f8 f9 := by
  obtain ⟨hb, hg⟩ := h
  exact ⟨by simpa using blk_set hb 2 (.int .i64 x), hg⟩
theorem cellS45_3 {W : World} {g : Nat} {f0 : Int} {f1 : Int} {f2 : Int} {f3 : Int} {f4 : Int} {f5 : ByteArray} {f6 : ByteArray} {f7 : ByteArray} {f8 : ByteArray} {f9 : Int} (h : W.heap[g]? = some (.cells #[.int .i64 f0, .int .i64 f1, .int .i64 f2, .int .i64 f3, .int .i64 f4, .string f5, .string f6, .string f7, .string f8, .int .i64 f9] 45 (0, 0))) : W.cell? ⟨g, 3, none⟩ = some (.int .i64 f3) := (blk_cell h 3).trans rfl
theorem IsS45.set_3 {w0 W : World} {g : Nat} {f0 : Int} {f1 : Int} {f2 : Int} {f3 : Int} {f4 : Int} {f5 : ByteArray} {f6 : ByteArray} {f7 : ByteArray} {f8 : ByteArray} {f9 : Int} (h : IsS45 w0 W g f0 f1 f2 f3 f4 f5 f6 f7 f8 f9) (x : Int) : IsS45 w0 (W.setCell ⟨g, 3, none⟩ (.int .i64 x)) g f0 f1 f2 x f4 f5 f6 f7 f8 f9 := by
  obtain ⟨hb, hg⟩ := h
  exact ⟨by simpa using blk_set hb 3 (.int .i64 x), hg⟩
theorem cellS45_4 {W : World} {g : Nat} {f0 : Int} {f1 : Int} {f2 : Int} {f3 : Int} {f4 : Int} {f5 : ByteArray} {f6 : ByteArray} {f7 : ByteArray} {f8 : ByteArray} {f9 : Int} (h : W.heap[g]? = some (.cells #[.int .i64 f0, .int .i64 f1, .int .i64 f2, .int .i64 f3, .int .i64 f4, .string f5, .string f6, .string f7, .string f8, .int .i64 f9] 45 (0, 0))) : W.cell? ⟨g, 4, none⟩ = some (.int .i64 f4) := (blk_cell h 4).trans rfl
theorem IsS45.set_4 {w0 W : World} {g : Nat} {f0 : Int} {f1 : Int} {f2 : Int} {f3 : Int} {f4 : Int} {f5 : ByteArray} {f6 : ByteArray} {f7 : ByteArray} {f8 : ByteArray} {f9 : Int} (h : IsS45 w0 W g f0 f1 f2 f3 f4 f5 f6 f7 f8 f9) (x : Int) : IsS45 w0 (W.setCell ⟨g, 4, none⟩ (.int .i64 x)) g f0 f1 f2 f3 x f5 f6 f7 f8 f9 := by
  obtain ⟨hb, hg⟩ := h
  exact ⟨by simpa using blk_set hb 4 (.int .i64 x), hg⟩
theorem cellS45_5 {W : World} {g : Nat} {f0 : Int} {f1 : Int} {f2 : Int} {f3 : Int} {f4 : Int} {f5 : ByteArray} {f6 : ByteArray} {f7 : ByteArray} {f8 : ByteArray} {f9 : Int} (h : W.heap[g]? = some (.cells #[.int .i64 f0, .int .i64 f1, .int .i64 f2, .int .i64 f3, .int .i64 f4, .string f5, .string f6, .string f7, .string f8, .int .i64 f9] 45 (0, 0))) : W.cell? ⟨g, 5, none⟩ = some (.string f5) := (blk_cell h 5).trans rfl
theorem IsS45.set_5 {w0 W : World} {g : Nat} {f0 : Int} {f1 : Int} {f2 : Int} {f3 : Int} {f4 : Int} {f5 : ByteArray} {f6 : ByteArray} {f7 : ByteArray} {f8 : ByteArray} {f9 : Int} (h : IsS45 w0 W g f0 f1 f2 f3 f4 f5 f6 f7 f8 f9) (x : ByteArray) : IsS45 w0 (W.setCell ⟨g, 5, none⟩ (.string x)) g f0 f1 f2 f3 f4 x f6 f7 f8 f9 := by
  obtain ⟨hb, hg⟩ := h
  exact ⟨by simpa using blk_set hb 5 (.string x), hg⟩
theorem cellS45_6 {W : World} {g : Nat} {f0 : Int} {f1 : Int} {f2 : Int} {f3 : Int} {f4 : Int} {f5 : ByteArray} {f6 : ByteArray} {f7 : ByteArray} {f8 : ByteArray} {f9 : Int} (h : W.heap[g]? = some (.cells #[.int .i64 f0, .int .i64 f1, .int .i64 f2, .int .i64 f3, .int .i64 f4, .string f5, .string f6, .string f7, .string f8, .int .i64 f9] 45 (0, 0))) : W.cell? ⟨g, 6, none⟩ = some (.string f6) := (blk_cell h 6).trans rfl
theorem IsS45.set_6 {w0 W : World} {g : Nat} {f0 : Int} {f1 : Int} {f2 : Int} {f3 : Int} {f4 : Int} {f5 : ByteArray} {f6 : ByteArray} {f7 : ByteArray} {f8 : ByteArray} {f9 : Int} (h : IsS45 w0 W g f0 f1 f2 f3 f4 f5 f6 f7 f8 f9) (x : ByteArray) : IsS45 w0 (W.setCell ⟨g, 6, none⟩ (.string x)) g f0 f1 f2 f3 f4 f5 x f7 f8 f9 := by
  obtain ⟨hb, hg⟩ := h
  exact ⟨by simpa using blk_set hb 6 (.string x), hg⟩
theorem cellS45_7 {W : World} {g : Nat} {f0 : Int} {f1 : Int} {f2 : Int} {f3 : Int} {f4 : Int} {f5 : ByteArray} {f6 : ByteArray} {f7 : ByteArray} {f8 : ByteArray} {f9 : Int} (h : W.heap[g]? = some (.cells #[.int .i64 f0, .int .i64 f1, .int .i64 f2, .int .i64 f3, .int .i64 f4, .string f5, .string f6, .string f7, .string f8, .int .i64 f9] 45 (0, 0))) : W.cell? ⟨g, 7, none⟩ = some (.string f7) := (blk_cell h 7).trans rfl
theorem IsS45.set_7 {w0 W : World} {g : Nat} {f0 : Int} {f1 : Int} {f2 : Int} {f3 : Int} {f4 : Int} {f5 : ByteArray} {f6 : ByteArray} {f7 : ByteArray} {f8 : ByteArray} {f9 : Int} (h : IsS45 w0 W g f0 f1 f2 f3 f4 f5 f6 f7 f8 f9) (x : ByteArray) : IsS45 w0 (W.setCell ⟨g, 7, none⟩ (.string x)) g f0 f1 f2 f3 f4 f5 f6 x f8 f9 := by
  obtain ⟨hb, hg⟩ := h
  exact ⟨by simpa using blk_set hb 7 (.string x), hg⟩
theorem cellS45_8 {W : World} {g : Nat} {f0 : Int} {f1 : Int} {f2 : Int} {f3 : Int} {f4 : Int} {f5 : ByteArray} {f6 : ByteArray} {f7 : ByteArray} {f8 : ByteArray} {f9 : Int} (h : W.heap[g]? = some (.cells #[.int .i64 f0, .int .i64 f1, .int .i64 f2, .int .i64 f3, .int .i64 f4, .string f5, .string f6, .string f7, .string f8, .int .i64 f9] 45 (0, 0))) : W.cell? ⟨g, 8, none⟩ = some (.string f8) := (blk_cell h 8).trans rfl
theorem IsS45.set_8 {w0 W : World} {g : Nat} {f0 : Int} {f1 : Int} {f2 : Int} {f3 : Int} {f4 : Int} {f5 : ByteArray} {f6 : ByteArray} {f7 : ByteArray} {f8 : ByteArray} {f9 : Int} (h : IsS45 w0 W g f0 f1 f2 f3 f4 f5 f6 f7 f8 f9) (x : ByteArray) : IsS45 w0 (W.setCell ⟨g, 8, none⟩ (.string x)) g f0 f1 f2 f3 f4 f5 f6 f7 x f9 := by
  obtain ⟨hb, hg⟩ := h
  exact ⟨by simpa using blk_set hb 8 (.string x), hg⟩
theorem cellS45_9 {W : World} {g : Nat} {f0 : Int} {f1 : Int} {f2 : Int} {f3 : Int} {f4 : Int} {f5 : ByteArray} {f6 : ByteArray} {f7 : ByteArray} {f8 : ByteArray} {f9 : Int} (h : W.heap[g]? = some (.cells #[.int .i64 f0, .int .i64 f1, .int .i64 f2, .int .i64 f3, .int .i64 f4, .string f5, .string f6, .string f7, .string f8, .int .i64 f9] 45 (0, 0))) : W.cell? ⟨g, 9, none⟩ = some (.int .i64 f9) := (blk_cell h 9).trans rfl
theorem IsS45.set_9 {w0 W : World} {g : Nat} {f0 : Int} {f1 : Int} {f2 : Int} {f3 : Int} {f4 : Int} {f5 : ByteArray} {f6 : ByteArray} {f7 : ByteArray} {f8 : ByteArray} {f9 : Int} (h : IsS45 w0 W g f0 f1 f2 f3 f4 f5 f6 f7 f8 f9) (x : Int) : IsS45 w0 (W.setCell ⟨g, 9, none⟩ (.int .i64 x)) g f0 f1 f2 f3 f4 f5 f6 f7 f8 x := by
  obtain ⟨hb, hg⟩ := h
  exact ⟨by simpa using blk_set hb 9 (.int .i64 x), hg⟩
mutual
def trammelref1_bound.j0 : Nat → Bool → Int → Bool → Int → Int → Int → Int → Int → ByteArray → ByteArray → ByteArray → ByteArray → Int → Int → Int → Int → Int → Int → ByteArray → ByteArray → ByteArray → ByteArray → Int → Option (Bool × Int × Int × Int × Int × Int × ByteArray × ByteArray × ByteArray × ByteArray × Int)
  | 0, _, _, _, _, _, _, _, _, _, _, _, _, _, _, _, _, _, _, _, _, _, _, _ => none
  | k + 1, x5, x7, x8, x2000, x2001, x2002, x2003, x2004, x2005, x2006, x2007, x2008, x2009, x157000, x157001, x157002, x157003, x157004, x157005, x157006, x157007, x157008, x157009 => if x8 = true then ((trammelref1_NameMay.f k x157005).bind fun t157 => (some (t157, x2000, x2001, x2002, x2003, x2004, x2005, x2006, x2007, x2008, x2009))) else (if x7 = 3 then (trammelref1_bound.j1 k x5 x7 (x7 == 3) x2000 x2001 x2002 x2003 x2004 x2005 x2006 x2007 x2008 x2009 x157000 x157001 x157002 x157003 x157004 x157005 x157006 x157007 x157008 x157009) else (trammelref1_bound.j1 k x5 x7 (x7 == 5) x2000 x2001 x2002 x2003 x2004 x2005 x2006 x2007 x2008 x2009 x157000 x157001 x157002 x157003 x157004 x157005 x157006 x157007 x157008 x157009))
def trammelref1_bound.j1 : Nat → Bool → Int → Bool → Int → Int → Int → Int → Int → ByteArray → ByteArray → ByteArray → ByteArray → Int → Int → Int → Int → Int → Int → ByteArray → ByteArray → ByteArray → ByteArray → Int → Option (Bool × Int × Int × Int × Int × Int × ByteArray × ByteArray × ByteArray × ByteArray × Int)
  | 0, _, _, _, _, _, _, _, _, _, _, _, _, _, _, _, _, _, _, _, _, _, _, _ => none
  | k + 1, x5, x7, x14, x2000, x2001, x2002, x2003, x2004, x2005, x2006, x2007, x2008, x2009, x157000, x157001, x157002, x157003, x157004, x157005, x157006, x157007, x157008, x157009 => if x14 = true then ((trammelref1_NameMay.f k x157006).bind fun t158 => (some (t158, x2000, x2001, x2002, x2003, x2004, x2005, x157006, x2007, x2008, x2009))) else (if x7 = 6 then ((trammelref1_NameMay.f k x157006).bind fun t159 => (if t159 = true then ((trammelref1_NameMay.f k x157007).bind fun t160 => (some (t160, x2000, x2001, x2002, x2003, x2004, x2005, x157006, x157007, x2008, x2009))) else (some (false, x2000, x2001, x2002, x2003, x2004, x2005, x157006, x157007, x2008, x2009)))) else (if x7 = 10 then ((trammelref1_NameMay.f k x157005).bind fun t161 => (if t161 = true then ((trammelref1_NameMay.f k x157006).bind fun t162 => (if t162 = true then ((trammelref1_NameMay.f k x157007).bind fun t163 => (if t163 = true then ((trammelref1_NameMay.f k x157008).bind fun t164 => (some (t164, x2000, x2001, x2002, x2003, x2004, x2005, x157006, x157007, x157008, x2009))) else (some (false, x2000, x2001, x2002, x2003, x2004, x2005, x157006, x157007, x157008, x2009)))) else (some (false, x2000, x2001, x2002, x2003, x2004, x2005, x157006, x157007, x157008, x2009)))) else (some (false, x2000, x2001, x2002, x2003, x2004, x2005, x157006, x157007, x157008, x2009)))) else (some (x5, x2000, x2001, x2002, x2003, x2004, x2005, x2006, x2007, x2008, x2009))))
end
def trammelref1_bound.f (k : Nat) (a0_0 : Int) (a0_1 : Int) (a0_2 : Int) (a0_3 : Int) (a0_4 : Int) (a0_5 : ByteArray) (a0_6 : ByteArray) (a0_7 : ByteArray) (a0_8 : ByteArray) (a0_9 : Int) (s1_0 : Int) (s1_1 : Int) (s1_2 : Int) (s1_3 : Int) (s1_4 : Int) (s1_5 : ByteArray) (s1_6 : ByteArray) (s1_7 : ByteArray) (s1_8 : ByteArray) (s1_9 : Int) : Option (Bool × Int × Int × Int × Int × Int × ByteArray × ByteArray × ByteArray × ByteArray × Int) := if a0_0 = 0 then (trammelref1_bound.j0 k true a0_0 (a0_0 == 0) s1_0 s1_1 s1_2 s1_3 s1_4 s1_5 s1_6 s1_7 s1_8 s1_9 a0_0 a0_1 a0_2 a0_3 a0_4 a0_5 a0_6 a0_7 a0_8 a0_9) else (trammelref1_bound.j0 k true a0_0 (a0_0 == 9) s1_0 s1_1 s1_2 s1_3 s1_4 s1_5 s1_6 s1_7 s1_8 s1_9 a0_0 a0_1 a0_2 a0_3 a0_4 a0_5 a0_6 a0_7 a0_8 a0_9)
end Go.Proofs.YtnogfhhfklkbiaaDoor.H

namespace Go.Proofs.YtnogfhhfklkbiaaDoor.H
open Go.RowKit Go.Proofs.YtnogfhhfklkbiaaDoorW.PrintWords Go.Proofs.YtnogfhhfklkbiaaDoorW.PrintLast Go.Proofs.YtnogfhhfklkbiaaDoorW.PrintMore
attribute [local go_sem] max2_int min2_int max_two min_two max_three min_three max_four min_four
set_option linter.unusedVariables false
set_option linter.unusedSimpArgs false
set_option maxHeartbeats 8000000 in
set_option maxRecDepth 100000 in
theorem trammelref1_bound.calls (k : Nat) (a0_0 : Int) (a0_1 : Int) (a0_2 : Int) (a0_3 : Int) (a0_4 : Int) (a0_5 : ByteArray) (a0_6 : ByteArray) (a0_7 : ByteArray) (a0_8 : ByteArray) (a0_9 : Int) (g : Nat) (s1_0 : Int) (s1_1 : Int) (s1_2 : Int) (s1_3 : Int) (s1_4 : Int) (s1_5 : ByteArray) (s1_6 : ByteArray) (s1_7 : ByteArray) (s1_8 : ByteArray) (s1_9 : Int) (r1 : Bool) (r2 : Int) (r3 : Int) (r4 : Int) (r5 : Int) (r6 : Int) (r7 : ByteArray) (r8 : ByteArray) (r9 : ByteArray) (r10 : ByteArray) (r11 : Int) (w0 w : World) (hI : IsS45 w0 w g s1_0 s1_1 s1_2 s1_3 s1_4 s1_5 s1_6 s1_7 s1_8 s1_9) (hB : Below w0.heap.size w0 w) (h : trammelref1_bound.f k a0_0 a0_1 a0_2 a0_3 a0_4 a0_5 a0_6 a0_7 a0_8 a0_9 s1_0 s1_1 s1_2 s1_3 s1_4 s1_5 s1_6 s1_7 s1_8 s1_9 = some (r1, r2, r3, r4, r5, r6, r7, r8, r9, r10, r11)) :
    Calls Tryd.prog 95 #[.agg #[.int .i64 a0_0, .int .i64 a0_1, .int .i64 a0_2, .int .i64 a0_3, .int .i64 a0_4, .string a0_5, .string a0_6, .string a0_7, .string a0_8, .int .i64 a0_9], .pointer (some ⟨g, 0, none⟩)] w fun e w' => e = .returned (.bool r1) ∧ IsS45 w0 w' g r2 r3 r4 r5 r6 r7 r8 r9 r10 r11 ∧ Below w0.heap.size w0 w' ∧ KeepBut w w' g none := by
  have hu45 := Tryd.underlying45
  have HI1 := Aside0.mk hI
  have HK := Aside0.mk (KeepBut.refl w g none)
  have HL := Aside0.mk hB.size
  clear hI
  have HW0 := Aside0.mk hB.size
  have HB := Aside0.mk hB
  clear hB
  have H : (if a0_0 = 0 then (trammelref1_bound.j0 k true a0_0 (a0_0 == 0) s1_0 s1_1 s1_2 s1_3 s1_4 s1_5 s1_6 s1_7 s1_8 s1_9 a0_0 a0_1 a0_2 a0_3 a0_4 a0_5 a0_6 a0_7 a0_8 a0_9) else (trammelref1_bound.j0 k true a0_0 (a0_0 == 9) s1_0 s1_1 s1_2 s1_3 s1_4 s1_5 s1_6 s1_7 s1_8 s1_9 a0_0 a0_1 a0_2 a0_3 a0_4 a0_5 a0_6 a0_7 a0_8 a0_9)) = some (r1, r2, r3, r4, r5, r6, r7, r8, r9, r10, r11) := h
  clear h
  have HC3 := Aside0.mk H
  clear H
  go_enter Tryd.func95, Tryd.ntmps95
  go_upto_if 8 with (first | ((with_reducible refine gate_dst (N := 2) rfl ?_); refine box_event ?hg (N := 2) ?hd (cs := #[.int .i64 a0_0, .int .i64 a0_1, .int .i64 a0_2, .int .i64 a0_3, .int .i64 a0_4, .string a0_5, .string a0_6, .string a0_7, .string a0_8, .int .i64 a0_9]) (t := 45) ?hr ?_; (case hd => rfl); (case hg => rfl); (case hr => first | (go_simp; done) | (go_simp; rfl)); intro gb156 hg w4 hbox hb; have n0_ := Aside0.mk (IsS45.below (by repeat (first | (with_reducible first | exact HI1.out | apply IsS45.alloc | apply IsS45.drewN | apply IsS45.drew | apply IsS45.set_0 | apply IsS45.set_1 | apply IsS45.set_2 | apply IsS45.set_3 | apply IsS45.set_4 | apply IsS45.set_5 | apply IsS45.set_6 | apply IsS45.set_7 | apply IsS45.set_8 | apply IsS45.set_9) | exact HI1.out)) hb); have n1_ := Aside0.mk (KeepBut.trans (by repeat (first | (with_reducible first | exact HK.out | apply KeepBut.set_ | apply keep_drewN | apply keep_drew | apply keep_alloc) | exact HK.out)) (KeepBut.of_below hb g none) (.inl rfl)); have n2_ := Aside0.mk (below_step (by repeat (first | (with_reducible first | exact HB.out | apply below_alloc | apply pw_below_drewN | apply below_drew1 | refine below_set ?_ (IsS45.ge HI1.out)) | exact HB.out)) hb); have n3_ := Aside0.mk (hbox); have n4_ := Aside0.mk ((by rw [hg]; exact (keep_size (w := w) (g := g) (row := none) (by repeat (first | (with_reducible first | exact HK.out | apply KeepBut.set_ | apply keep_drewN | apply keep_drew | apply keep_alloc) | exact HK.out))) : w.heap.size ≤ gb156)); have n5_ := Aside0.mk ((Nat.le_trans HW0.out (by rw [hg]; exact (keep_size (w := w) (g := g) (row := none) (by repeat (first | (with_reducible first | exact HK.out | apply KeepBut.set_ | apply keep_drewN | apply keep_drew | apply keep_alloc) | exact HK.out))) : w.heap.size ≤ gb156) : w0.heap.size ≤ gb156)); have n6_ := Aside0.mk ((by rw [hg]; exact Nat.ne_of_lt (IsS45.lt (show IsS45 w0 _ g s1_0 s1_1 s1_2 s1_3 s1_4 s1_5 s1_6 s1_7 s1_8 s1_9 from by repeat (first | (with_reducible first | exact HI1.out | apply IsS45.alloc | apply IsS45.drewN | apply IsS45.drew | apply IsS45.set_0 | apply IsS45.set_1 | apply IsS45.set_2 | apply IsS45.set_3 | apply IsS45.set_4 | apply IsS45.set_5 | apply IsS45.set_6 | apply IsS45.set_7 | apply IsS45.set_8 | apply IsS45.set_9) | exact HI1.out))) : g ≠ gb156)); have n7_ := Aside0.mk ((by rw [hg]; exact Nat.ne_of_gt (IsS45.lt (show IsS45 w0 _ g s1_0 s1_1 s1_2 s1_3 s1_4 s1_5 s1_6 s1_7 s1_8 s1_9 from by repeat (first | (with_reducible first | exact HI1.out | apply IsS45.alloc | apply IsS45.drewN | apply IsS45.drew | apply IsS45.set_0 | apply IsS45.set_1 | apply IsS45.set_2 | apply IsS45.set_3 | apply IsS45.set_4 | apply IsS45.set_5 | apply IsS45.set_6 | apply IsS45.set_7 | apply IsS45.set_8 | apply IsS45.set_9) | exact HI1.out))) : gb156 ≠ g)); clear HI1; clear HK; clear HB; have HI1 := n0_; have HK := n1_; have HB := n2_; have BK156 := n3_; have GW156 := n4_; have GE156 := n5_; have NB1_156 := n6_; have NB156_1 := n7_; clear n0_ n1_ n2_ n3_ n4_ n5_ n6_ n7_; clear hb hbox hg; have hnb5 := NB156_1.out; have hnc5 := NB1_156.out; have hcz6_0 : w4.cell? ⟨gb156, 0, none⟩ = some (.int .i64 a0_0) := (blk_cell BK156.out 0).trans rfl; have hcz6_1 : w4.cell? ⟨gb156, 1, none⟩ = some (.int .i64 a0_1) := (blk_cell BK156.out 1).trans rfl; have hcz6_2 : w4.cell? ⟨gb156, 2, none⟩ = some (.int .i64 a0_2) := (blk_cell BK156.out 2).trans rfl; have hcz6_3 : w4.cell? ⟨gb156, 3, none⟩ = some (.int .i64 a0_3) := (blk_cell BK156.out 3).trans rfl; have hcz6_4 : w4.cell? ⟨gb156, 4, none⟩ = some (.int .i64 a0_4) := (blk_cell BK156.out 4).trans rfl; have hcz6_5 : w4.cell? ⟨gb156, 5, none⟩ = some (.string a0_5) := (blk_cell BK156.out 5).trans rfl; have hcz6_6 : w4.cell? ⟨gb156, 6, none⟩ = some (.string a0_6) := (blk_cell BK156.out 6).trans rfl; have hcz6_7 : w4.cell? ⟨gb156, 7, none⟩ = some (.string a0_7) := (blk_cell BK156.out 7).trans rfl; have hcz6_8 : w4.cell? ⟨gb156, 8, none⟩ = some (.string a0_8) := (blk_cell BK156.out 8).trans rfl; have hcz6_9 : w4.cell? ⟨gb156, 9, none⟩ = some (.int .i64 a0_9) := (blk_cell BK156.out 9).trans rfl; have hfz6_0 := blk_frozen BK156.out 0; have hfz6_1 := blk_frozen BK156.out 1; have hfz6_2 := blk_frozen BK156.out 2; have hfz6_3 := blk_frozen BK156.out 3; have hfz6_4 := blk_frozen BK156.out 4; have hfz6_5 := blk_frozen BK156.out 5; have hfz6_6 := blk_frozen BK156.out 6; have hfz6_7 := blk_frozen BK156.out 7; have hfz6_8 := blk_frozen BK156.out 8; have hfz6_9 := blk_frozen BK156.out 9))
  (try simp only [Act.put, List.setIfInBounds_toArray, List.set_cons_zero, List.set_cons_succ])
  go_cut [8] (fun v8 wc => ∃ (kq : Nat) (x8_2 : Bool), v8 = .bool x8_2 ∧ Aside0 (trammelref1_bound.j0 kq true a0_0 x8_2 s1_0 s1_1 s1_2 s1_3 s1_4 s1_5 s1_6 s1_7 s1_8 s1_9 a0_0 a0_1 a0_2 a0_3 a0_4 a0_5 a0_6 a0_7 a0_8 a0_9 = some (r1, r2, r3, r4, r5, r6, r7, r8, r9, r10, r11)) ∧ Aside0 (kq ≤ k) ∧ Aside0 (wc.heap[gb156]? = some (.cells #[.int .i64 a0_0, .int .i64 a0_1, .int .i64 a0_2, .int .i64 a0_3, .int .i64 a0_4, .string a0_5, .string a0_6, .string a0_7, .string a0_8, .int .i64 a0_9] 45 (0, 0))) ∧ Aside0 (IsS45 w0 wc g s1_0 s1_1 s1_2 s1_3 s1_4 s1_5 s1_6 s1_7 s1_8 s1_9) ∧ Aside0 (KeepBut w wc g none) ∧ Aside0 (Below w0.heap.size w0 wc))
  case first =>
    have H := HC3.out
    clear HC3
    by_cases c7 : a0_0 = 0
    · rw [if_pos c7] at H
      have c7b0 : (a0_0 == 0) = true := beq_iff_eq.mpr c7
      have c7b1 : (a0_0 != 0) = false := bne_eq_false_iff_eq.mpr c7
      clear c7
      (first | rw [c7b0] | (simp only [i64_w, i32_w]; rw [c7b0]) | skip)
      have H' := Aside0.mk H
      clear H
      go_wp2
      go_meet
      case rel => exact ⟨_, ((a0_0 == 0)), (by first | rfl | (simp; done) | (simp [*]; done)), H', ⟨by first | omega | exact Nat.le_refl _⟩, ⟨by (with_reducible repeat (first | refine blk_drewN ?_ _ | refine blk_drew ?_ | refine blk_alloc ?_ _)); exact BK156.out⟩, ⟨by repeat (first | (with_reducible first | exact HI1.out | apply IsS45.alloc | apply IsS45.drewN | apply IsS45.drew | apply IsS45.set_0 | apply IsS45.set_1 | apply IsS45.set_2 | apply IsS45.set_3 | apply IsS45.set_4 | apply IsS45.set_5 | apply IsS45.set_6 | apply IsS45.set_7 | apply IsS45.set_8 | apply IsS45.set_9 | refine IsS45.far ?_ NB1_156.out _) | exact HI1.out)⟩, ⟨by repeat (first | (with_reducible first | exact HK.out | apply KeepBut.set_ | apply keep_drewN | apply keep_drew | apply keep_alloc | refine keep_far ?_ GW156.out _) | exact HK.out)⟩, ⟨by repeat (first | (with_reducible first | exact HB.out | apply below_alloc | apply pw_below_drewN | apply below_drew1 | refine below_set ?_ (IsS45.ge HI1.out) | refine below_set ?_ GE156.out) | exact HB.out)⟩⟩
    · rw [if_neg c7] at H
      have c7b0 : (a0_0 == 0) = false := beq_eq_false_iff_ne.mpr c7
      have c7b1 : (a0_0 != 0) = true := bne_iff_ne.mpr c7
      (first | rw [c7b0] | (simp only [i64_w, i32_w]; rw [c7b0]) | skip)
      have H' := Aside0.mk H
      clear H
      go_wp2
      go_meet
      case rel => exact ⟨_, ((a0_0 == 9)), (by first | rfl | (simp; done) | (simp [*]; done)), H', ⟨by first | omega | exact Nat.le_refl _⟩, ⟨by (with_reducible repeat (first | refine blk_drewN ?_ _ | refine blk_drew ?_ | refine blk_alloc ?_ _)); exact BK156.out⟩, ⟨by repeat (first | (with_reducible first | exact HI1.out | apply IsS45.alloc | apply IsS45.drewN | apply IsS45.drew | apply IsS45.set_0 | apply IsS45.set_1 | apply IsS45.set_2 | apply IsS45.set_3 | apply IsS45.set_4 | apply IsS45.set_5 | apply IsS45.set_6 | apply IsS45.set_7 | apply IsS45.set_8 | apply IsS45.set_9 | refine IsS45.far ?_ NB1_156.out _) | exact HI1.out)⟩, ⟨by repeat (first | (with_reducible first | exact HK.out | apply KeepBut.set_ | apply keep_drewN | apply keep_drew | apply keep_alloc | refine keep_far ?_ GW156.out _) | exact HK.out)⟩, ⟨by repeat (first | (with_reducible first | exact HB.out | apply below_alloc | apply pw_below_drewN | apply below_drew1 | refine below_set ?_ (IsS45.ge HI1.out) | refine below_set ?_ GE156.out) | exact HB.out)⟩⟩
  case rest =>
    clear HC3
    try clear p2
    try clear c5
    try clear c7
    try clear c7b0
    try clear c7b1
    try clear hcz6_0
    try clear hcz6_1
    try clear hcz6_2
    try clear hcz6_3
    try clear hcz6_4
    try clear hcz6_5
    try clear hcz6_6
    try clear hcz6_7
    try clear hcz6_8
    try clear hcz6_9
    try clear hfz6_0
    try clear hfz6_1
    try clear hfz6_2
    try clear hfz6_3
    try clear hfz6_4
    try clear hfz6_5
    try clear hfz6_6
    try clear hfz6_7
    try clear hfz6_8
    try clear hfz6_9
    obtain ⟨kq, x8_2, rfl, HA, HJ2, BK156, HI1, HK, HB⟩ := hcut
    cases kq with
    | zero => exact absurd HA.out (by simp [trammelref1_bound.j0])
    | succ kj2 =>
      have H := HA.out
      clear HA
      simp only [trammelref1_bound.j0] at H
      by_cases c8 : x8_2 = true
      · subst c8
        have H1 : ((trammelref1_NameMay.f kj2 a0_5).bind fun t157 => (some (t157, s1_0, s1_1, s1_2, s1_3, s1_4, s1_5, s1_6, s1_7, s1_8, s1_9))) = some (r1, r2, r3, r4, r5, r6, r7, r8, r9, r10, r11) := by rw [if_pos rfl] at H; exact H
        clear H
        have H := H1
        clear H1
        replace H := Option.bind_eq_some_iff.mp H
        obtain ⟨t157, A90, H⟩ := H
        replace H : (some (t157, s1_0, s1_1, s1_2, s1_3, s1_4, s1_5, s1_6, s1_7, s1_8, s1_9)) = some (r1, r2, r3, r4, r5, r6, r7, r8, r9, r10, r11) := H
        have A9 := Aside0.mk A90
        clear A90
        simp only [Option.some.injEq, Prod.mk.injEq] at H
        obtain ⟨rfl, rfl, rfl, rfl, rfl, rfl, rfl, rfl, rfl, rfl, rfl⟩ := H
        have hnb10 := NB156_1.out
        have hnc10 := NB1_156.out
        have hcz11_0 : wc.cell? ⟨gb156, 0, none⟩ = some (.int .i64 a0_0) := (blk_cell BK156.out 0).trans rfl
        have hcz11_1 : wc.cell? ⟨gb156, 1, none⟩ = some (.int .i64 a0_1) := (blk_cell BK156.out 1).trans rfl
        have hcz11_2 : wc.cell? ⟨gb156, 2, none⟩ = some (.int .i64 a0_2) := (blk_cell BK156.out 2).trans rfl
        have hcz11_3 : wc.cell? ⟨gb156, 3, none⟩ = some (.int .i64 a0_3) := (blk_cell BK156.out 3).trans rfl
        have hcz11_4 : wc.cell? ⟨gb156, 4, none⟩ = some (.int .i64 a0_4) := (blk_cell BK156.out 4).trans rfl
        have hcz11_5 : wc.cell? ⟨gb156, 5, none⟩ = some (.string a0_5) := (blk_cell BK156.out 5).trans rfl
        have hcz11_6 : wc.cell? ⟨gb156, 6, none⟩ = some (.string a0_6) := (blk_cell BK156.out 6).trans rfl
        have hcz11_7 : wc.cell? ⟨gb156, 7, none⟩ = some (.string a0_7) := (blk_cell BK156.out 7).trans rfl
        have hcz11_8 : wc.cell? ⟨gb156, 8, none⟩ = some (.string a0_8) := (blk_cell BK156.out 8).trans rfl
        have hcz11_9 : wc.cell? ⟨gb156, 9, none⟩ = some (.int .i64 a0_9) := (blk_cell BK156.out 9).trans rfl
        have hfz11_0 := blk_frozen BK156.out 0
        have hfz11_1 := blk_frozen BK156.out 1
        have hfz11_2 := blk_frozen BK156.out 2
        have hfz11_3 := blk_frozen BK156.out 3
        have hfz11_4 := blk_frozen BK156.out 4
        have hfz11_5 := blk_frozen BK156.out 5
        have hfz11_6 := blk_frozen BK156.out 6
        have hfz11_7 := blk_frozen BK156.out 7
        have hfz11_8 := blk_frozen BK156.out 8
        have hfz11_9 := blk_frozen BK156.out 9
        go_wp2_with (first | ((with_reducible refine gate_callee (f := 72) rfl ?_); refine goesL_ (some 13) rfl rfl Tryd.func72 (by kernel_rfl) rfl #[.string a0_5] rfl (by (try simp only [List.map_toArray, List.map_cons, List.map_nil]); first | done | rfl | (simp only [List.length_drop, List.length_take]; rfl)) ?_; (with_reducible refine (trammelref1_NameMay.calls kj2 a0_5 t157 _ A9.out).mono ?_); rintro e w' ⟨rfl, ⟨nd, rfl⟩⟩; refine ⟨_, rfl, ?_⟩))
        go_ret
        exact ⟨by first | rfl | (simp [errW_none, errW_some] <;> rfl) | (simp [*, errW_none, errW_some] <;> rfl), by repeat (first | (with_reducible first | exact HI1.out | apply IsS45.alloc | apply IsS45.drewN | apply IsS45.drew | apply IsS45.set_0 | apply IsS45.set_1 | apply IsS45.set_2 | apply IsS45.set_3 | apply IsS45.set_4 | apply IsS45.set_5 | apply IsS45.set_6 | apply IsS45.set_7 | apply IsS45.set_8 | apply IsS45.set_9 | refine IsS45.far ?_ NB1_156.out _) | exact HI1.out), by repeat (first | (with_reducible first | exact HB.out | apply below_alloc | apply pw_below_drewN | apply below_drew1 | refine below_set ?_ (IsS45.ge HI1.out) | refine below_set ?_ GE156.out) | exact HB.out), by repeat (first | (with_reducible first | exact HK.out | apply KeepBut.set_ | apply keep_drewN | apply keep_drew | apply keep_alloc | refine keep_far ?_ GW156.out _) | exact HK.out)⟩
      · replace c8 := Bool.eq_false_iff.mpr c8
        subst c8
        have H1 : (if a0_0 = 3 then (trammelref1_bound.j1 kj2 true a0_0 (a0_0 == 3) s1_0 s1_1 s1_2 s1_3 s1_4 s1_5 s1_6 s1_7 s1_8 s1_9 a0_0 a0_1 a0_2 a0_3 a0_4 a0_5 a0_6 a0_7 a0_8 a0_9) else (trammelref1_bound.j1 kj2 true a0_0 (a0_0 == 5) s1_0 s1_1 s1_2 s1_3 s1_4 s1_5 s1_6 s1_7 s1_8 s1_9 a0_0 a0_1 a0_2 a0_3 a0_4 a0_5 a0_6 a0_7 a0_8 a0_9)) = some (r1, r2, r3, r4, r5, r6, r7, r8, r9, r10, r11) := by rw [if_neg (show ¬ (false = true) by decide)] at H; exact H
        clear H
        have H := H1
        clear H1
        have HC12 := Aside0.mk H
        clear H
        go_upto_if 14 with (fail)
        go_cut [14] (fun v14 wc => ∃ (kq : Nat) (x14_11 : Bool), v14 = .bool x14_11 ∧ Aside0 (trammelref1_bound.j1 kq true a0_0 x14_11 s1_0 s1_1 s1_2 s1_3 s1_4 s1_5 s1_6 s1_7 s1_8 s1_9 a0_0 a0_1 a0_2 a0_3 a0_4 a0_5 a0_6 a0_7 a0_8 a0_9 = some (r1, r2, r3, r4, r5, r6, r7, r8, r9, r10, r11)) ∧ Aside0 (kq ≤ kj2) ∧ Aside0 (wc.heap[gb156]? = some (.cells #[.int .i64 a0_0, .int .i64 a0_1, .int .i64 a0_2, .int .i64 a0_3, .int .i64 a0_4, .string a0_5, .string a0_6, .string a0_7, .string a0_8, .int .i64 a0_9] 45 (0, 0))) ∧ Aside0 (IsS45 w0 wc g s1_0 s1_1 s1_2 s1_3 s1_4 s1_5 s1_6 s1_7 s1_8 s1_9) ∧ Aside0 (KeepBut w wc g none) ∧ Aside0 (Below w0.heap.size w0 wc))
        case first =>
          have H := HC12.out
          clear HC12
          by_cases c13 : a0_0 = 3
          · rw [if_pos c13] at H
            have c13b0 : (a0_0 == 3) = true := beq_iff_eq.mpr c13
            have c13b1 : (a0_0 != 3) = false := bne_eq_false_iff_eq.mpr c13
            clear c13
            (first | rw [c13b0] | (simp only [i64_w, i32_w]; rw [c13b0]) | skip)
            have H' := Aside0.mk H
            clear H
            go_wp2
            go_meet
            case rel => exact ⟨_, ((a0_0 == 3)), (by first | rfl | (simp; done) | (simp [*]; done)), H', ⟨by have := HJ2.out; first | omega | exact Nat.le_refl _⟩, ⟨by (with_reducible repeat (first | refine blk_drewN ?_ _ | refine blk_drew ?_ | refine blk_alloc ?_ _)); exact BK156.out⟩, ⟨by repeat (first | (with_reducible first | exact HI1.out | apply IsS45.alloc | apply IsS45.drewN | apply IsS45.drew | apply IsS45.set_0 | apply IsS45.set_1 | apply IsS45.set_2 | apply IsS45.set_3 | apply IsS45.set_4 | apply IsS45.set_5 | apply IsS45.set_6 | apply IsS45.set_7 | apply IsS45.set_8 | apply IsS45.set_9 | refine IsS45.far ?_ NB1_156.out _) | exact HI1.out)⟩, ⟨by repeat (first | (with_reducible first | exact HK.out | apply KeepBut.set_ | apply keep_drewN | apply keep_drew | apply keep_alloc | refine keep_far ?_ GW156.out _) | exact HK.out)⟩, ⟨by repeat (first | (with_reducible first | exact HB.out | apply below_alloc | apply pw_below_drewN | apply below_drew1 | refine below_set ?_ (IsS45.ge HI1.out) | refine below_set ?_ GE156.out) | exact HB.out)⟩⟩
          · rw [if_neg c13] at H
            have c13b0 : (a0_0 == 3) = false := beq_eq_false_iff_ne.mpr c13
            have c13b1 : (a0_0 != 3) = true := bne_iff_ne.mpr c13
            (first | rw [c13b0] | (simp only [i64_w, i32_w]; rw [c13b0]) | skip)
            have H' := Aside0.mk H
            clear H
            go_wp2
            go_meet
            case rel => exact ⟨_, ((a0_0 == 5)), (by first | rfl | (simp; done) | (simp [*]; done)), H', ⟨by have := HJ2.out; first | omega | exact Nat.le_refl _⟩, ⟨by (with_reducible repeat (first | refine blk_drewN ?_ _ | refine blk_drew ?_ | refine blk_alloc ?_ _)); exact BK156.out⟩, ⟨by repeat (first | (with_reducible first | exact HI1.out | apply IsS45.alloc | apply IsS45.drewN | apply IsS45.drew | apply IsS45.set_0 | apply IsS45.set_1 | apply IsS45.set_2 | apply IsS45.set_3 | apply IsS45.set_4 | apply IsS45.set_5 | apply IsS45.set_6 | apply IsS45.set_7 | apply IsS45.set_8 | apply IsS45.set_9 | refine IsS45.far ?_ NB1_156.out _) | exact HI1.out)⟩, ⟨by repeat (first | (with_reducible first | exact HK.out | apply KeepBut.set_ | apply keep_drewN | apply keep_drew | apply keep_alloc | refine keep_far ?_ GW156.out _) | exact HK.out)⟩, ⟨by repeat (first | (with_reducible first | exact HB.out | apply below_alloc | apply pw_below_drewN | apply below_drew1 | refine below_set ?_ (IsS45.ge HI1.out) | refine below_set ?_ GE156.out) | exact HB.out)⟩⟩
        case rest =>
          clear HC12
          try clear c1
          try clear p2
          try clear c5
          try clear c7
          try clear c7b0
          try clear c7b1
          try clear c8
          try clear c9
          try clear c10
          try clear c13
          try clear c13b0
          try clear c13b1
          try clear hcz11_0
          try clear hcz11_1
          try clear hcz11_2
          try clear hcz11_3
          try clear hcz11_4
          try clear hcz11_5
          try clear hcz11_6
          try clear hcz11_7
          try clear hcz11_8
          try clear hcz11_9
          try clear hcz6_0
          try clear hcz6_1
          try clear hcz6_2
          try clear hcz6_3
          try clear hcz6_4
          try clear hcz6_5
          try clear hcz6_6
          try clear hcz6_7
          try clear hcz6_8
          try clear hcz6_9
          try clear hfz11_0
          try clear hfz11_1
          try clear hfz11_2
          try clear hfz11_3
          try clear hfz11_4
          try clear hfz11_5
          try clear hfz11_6
          try clear hfz11_7
          try clear hfz11_8
          try clear hfz11_9
          try clear hfz6_0
          try clear hfz6_1
          try clear hfz6_2
          try clear hfz6_3
          try clear hfz6_4
          try clear hfz6_5
          try clear hfz6_6
          try clear hfz6_7
          try clear hfz6_8
          try clear hfz6_9
          try clear p2
          obtain ⟨kq, x14_11, rfl, HA, HJ11, BK156, HI1, HK, HB⟩ := hcut
          cases kq with
          | zero => exact absurd HA.out (by simp [trammelref1_bound.j1])
          | succ kj11 =>
            have H := HA.out
            clear HA
            simp only [trammelref1_bound.j1] at H
            by_cases c14 : x14_11 = true
            · subst c14
              have H1 : ((trammelref1_NameMay.f kj11 a0_6).bind fun t158 => (some (t158, s1_0, s1_1, s1_2, s1_3, s1_4, s1_5, a0_6, s1_7, s1_8, s1_9))) = some (r1, r2, r3, r4, r5, r6, r7, r8, r9, r10, r11) := by rw [if_pos rfl] at H; exact H
              clear H
              have H := H1
              clear H1
              replace H := Option.bind_eq_some_iff.mp H
              obtain ⟨t158, A150, H⟩ := H
              replace H : (some (t158, s1_0, s1_1, s1_2, s1_3, s1_4, s1_5, a0_6, s1_7, s1_8, s1_9)) = some (r1, r2, r3, r4, r5, r6, r7, r8, r9, r10, r11) := H
              have A15 := Aside0.mk A150
              clear A150
              simp only [Option.some.injEq, Prod.mk.injEq] at H
              obtain ⟨rfl, rfl, rfl, rfl, rfl, rfl, rfl, rfl, rfl, rfl, rfl⟩ := H
              have hnb16 := NB156_1.out
              have hnc16 := NB1_156.out
              have hcz17_0 : wc.cell? ⟨gb156, 0, none⟩ = some (.int .i64 a0_0) := (blk_cell BK156.out 0).trans rfl
              have hcz17_1 : wc.cell? ⟨gb156, 1, none⟩ = some (.int .i64 a0_1) := (blk_cell BK156.out 1).trans rfl
              have hcz17_2 : wc.cell? ⟨gb156, 2, none⟩ = some (.int .i64 a0_2) := (blk_cell BK156.out 2).trans rfl
              have hcz17_3 : wc.cell? ⟨gb156, 3, none⟩ = some (.int .i64 a0_3) := (blk_cell BK156.out 3).trans rfl
              have hcz17_4 : wc.cell? ⟨gb156, 4, none⟩ = some (.int .i64 a0_4) := (blk_cell BK156.out 4).trans rfl
              have hcz17_5 : wc.cell? ⟨gb156, 5, none⟩ = some (.string a0_5) := (blk_cell BK156.out 5).trans rfl
              have hcz17_6 : wc.cell? ⟨gb156, 6, none⟩ = some (.string a0_6) := (blk_cell BK156.out 6).trans rfl
              have hcz17_7 : wc.cell? ⟨gb156, 7, none⟩ = some (.string a0_7) := (blk_cell BK156.out 7).trans rfl
              have hcz17_8 : wc.cell? ⟨gb156, 8, none⟩ = some (.string a0_8) := (blk_cell BK156.out 8).trans rfl
              have hcz17_9 : wc.cell? ⟨gb156, 9, none⟩ = some (.int .i64 a0_9) := (blk_cell BK156.out 9).trans rfl
              have hfz17_0 := blk_frozen BK156.out 0
              have hfz17_1 := blk_frozen BK156.out 1
              have hfz17_2 := blk_frozen BK156.out 2
              have hfz17_3 := blk_frozen BK156.out 3
              have hfz17_4 := blk_frozen BK156.out 4
              have hfz17_5 := blk_frozen BK156.out 5
              have hfz17_6 := blk_frozen BK156.out 6
              have hfz17_7 := blk_frozen BK156.out 7
              have hfz17_8 := blk_frozen BK156.out 8
              have hfz17_9 := blk_frozen BK156.out 9
              obtain ⟨HGz18, hgz18⟩ := HI1.out
              have hcz18_0 := cellS45_0 HGz18
              have hcz18_1 := cellS45_1 HGz18
              have hcz18_2 := cellS45_2 HGz18
              have hcz18_3 := cellS45_3 HGz18
              have hcz18_4 := cellS45_4 HGz18
              have hcz18_5 := cellS45_5 HGz18
              have hcz18_6 := cellS45_6 HGz18
              have hcz18_7 := cellS45_7 HGz18
              have hcz18_8 := cellS45_8 HGz18
              have hcz18_9 := cellS45_9 HGz18
              have hfz18_0 := blk_frozen HGz18 0
              have hfz18_1 := blk_frozen HGz18 1
              have hfz18_2 := blk_frozen HGz18 2
              have hfz18_3 := blk_frozen HGz18 3
              have hfz18_4 := blk_frozen HGz18 4
              have hfz18_5 := blk_frozen HGz18 5
              have hfz18_6 := blk_frozen HGz18 6
              have hfz18_7 := blk_frozen HGz18 7
              have hfz18_8 := blk_frozen HGz18 8
              have hfz18_9 := blk_frozen HGz18 9
              clear HGz18 hgz18
              go_wp2_with (first | ((with_reducible refine gate_callee (f := 72) rfl ?_); refine goesL_ (some 24) rfl rfl Tryd.func72 (by kernel_rfl) rfl #[.string a0_6] rfl (by (try simp only [List.map_toArray, List.map_cons, List.map_nil]); first | done | rfl | (simp only [List.length_drop, List.length_take]; rfl)) ?_; (with_reducible refine (trammelref1_NameMay.calls kj11 a0_6 t158 _ A15.out).mono ?_); rintro e w' ⟨rfl, ⟨nd, rfl⟩⟩; refine ⟨_, rfl, ?_⟩))
              go_ret
              exact ⟨by first | rfl | (simp [errW_none, errW_some] <;> rfl) | (simp [*, errW_none, errW_some] <;> rfl), by repeat (first | (with_reducible first | exact HI1.out | apply IsS45.alloc | apply IsS45.drewN | apply IsS45.drew | apply IsS45.set_0 | apply IsS45.set_1 | apply IsS45.set_2 | apply IsS45.set_3 | apply IsS45.set_4 | apply IsS45.set_5 | apply IsS45.set_6 | apply IsS45.set_7 | apply IsS45.set_8 | apply IsS45.set_9 | refine IsS45.far ?_ NB1_156.out _) | exact HI1.out), by repeat (first | (with_reducible first | exact HB.out | apply below_alloc | apply pw_below_drewN | apply below_drew1 | refine below_set ?_ (IsS45.ge HI1.out) | refine below_set ?_ GE156.out) | exact HB.out), by repeat (first | (with_reducible first | exact HK.out | apply KeepBut.set_ | apply keep_drewN | apply keep_drew | apply keep_alloc | refine keep_far ?_ GW156.out _) | exact HK.out)⟩
            · replace c14 := Bool.eq_false_iff.mpr c14
              subst c14
              have H1 : (if a0_0 = 6 then ((trammelref1_NameMay.f kj11 a0_6).bind fun t159 => (if t159 = true then ((trammelref1_NameMay.f kj11 a0_7).bind fun t160 => (some (t160, s1_0, s1_1, s1_2, s1_3, s1_4, s1_5, a0_6, a0_7, s1_8, s1_9))) else (some (false, s1_0, s1_1, s1_2, s1_3, s1_4, s1_5, a0_6, a0_7, s1_8, s1_9)))) else (if a0_0 = 10 then ((trammelref1_NameMay.f kj11 a0_5).bind fun t161 => (if t161 = true then ((trammelref1_NameMay.f kj11 a0_6).bind fun t162 => (if t162 = true then ((trammelref1_NameMay.f kj11 a0_7).bind fun t163 => (if t163 = true then ((trammelref1_NameMay.f kj11 a0_8).bind fun t164 => (some (t164, s1_0, s1_1, s1_2, s1_3, s1_4, s1_5, a0_6, a0_7, a0_8, s1_9))) else (some (false, s1_0, s1_1, s1_2, s1_3, s1_4, s1_5, a0_6, a0_7, a0_8, s1_9)))) else (some (false, s1_0, s1_1, s1_2, s1_3, s1_4, s1_5, a0_6, a0_7, a0_8, s1_9)))) else (some (false, s1_0, s1_1, s1_2, s1_3, s1_4, s1_5, a0_6, a0_7, a0_8, s1_9)))) else (some (true, s1_0, s1_1, s1_2, s1_3, s1_4, s1_5, s1_6, s1_7, s1_8, s1_9)))) = some (r1, r2, r3, r4, r5, r6, r7, r8, r9, r10, r11) := by rw [if_neg (show ¬ (false = true) by decide)] at H; exact H
              clear H
              have H := H1
              clear H1
              by_cases c19 : a0_0 = 6
              · rw [if_pos c19] at H
                have c19b0 : (a0_0 == 6) = true := beq_iff_eq.mpr c19
                have c19b1 : (a0_0 != 6) = false := bne_eq_false_iff_eq.mpr c19
                clear c19
                replace H := Option.bind_eq_some_iff.mp H
                obtain ⟨t159, A200, H⟩ := H
                replace H : (if t159 = true then ((trammelref1_NameMay.f kj11 a0_7).bind fun t160 => (some (t160, s1_0, s1_1, s1_2, s1_3, s1_4, s1_5, a0_6, a0_7, s1_8, s1_9))) else (some (false, s1_0, s1_1, s1_2, s1_3, s1_4, s1_5, a0_6, a0_7, s1_8, s1_9))) = some (r1, r2, r3, r4, r5, r6, r7, r8, r9, r10, r11) := H
                have A20 := Aside0.mk A200
                clear A200
                by_cases c21 : t159 = true
                · subst c21
                  have H1 : ((trammelref1_NameMay.f kj11 a0_7).bind fun t160 => (some (t160, s1_0, s1_1, s1_2, s1_3, s1_4, s1_5, a0_6, a0_7, s1_8, s1_9))) = some (r1, r2, r3, r4, r5, r6, r7, r8, r9, r10, r11) := by rw [if_pos rfl] at H; exact H
                  clear H
                  have H := H1
                  clear H1
                  replace H := Option.bind_eq_some_iff.mp H
                  obtain ⟨t160, A220, H⟩ := H
                  replace H : (some (t160, s1_0, s1_1, s1_2, s1_3, s1_4, s1_5, a0_6, a0_7, s1_8, s1_9)) = some (r1, r2, r3, r4, r5, r6, r7, r8, r9, r10, r11) := H
                  have A22 := Aside0.mk A220
                  clear A220
                  simp only [Option.some.injEq, Prod.mk.injEq] at H
                  obtain ⟨rfl, rfl, rfl, rfl, rfl, rfl, rfl, rfl, rfl, rfl, rfl⟩ := H
                  have hnb23 := NB156_1.out
                  have hnc23 := NB1_156.out
                  have hcz24_0 : wc.cell? ⟨gb156, 0, none⟩ = some (.int .i64 a0_0) := (blk_cell BK156.out 0).trans rfl
                  have hcz24_1 : wc.cell? ⟨gb156, 1, none⟩ = some (.int .i64 a0_1) := (blk_cell BK156.out 1).trans rfl
                  have hcz24_2 : wc.cell? ⟨gb156, 2, none⟩ = some (.int .i64 a0_2) := (blk_cell BK156.out 2).trans rfl
                  have hcz24_3 : wc.cell? ⟨gb156, 3, none⟩ = some (.int .i64 a0_3) := (blk_cell BK156.out 3).trans rfl
                  have hcz24_4 : wc.cell? ⟨gb156, 4, none⟩ = some (.int .i64 a0_4) := (blk_cell BK156.out 4).trans rfl
                  have hcz24_5 : wc.cell? ⟨gb156, 5, none⟩ = some (.string a0_5) := (blk_cell BK156.out 5).trans rfl
                  have hcz24_6 : wc.cell? ⟨gb156, 6, none⟩ = some (.string a0_6) := (blk_cell BK156.out 6).trans rfl
                  have hcz24_7 : wc.cell? ⟨gb156, 7, none⟩ = some (.string a0_7) := (blk_cell BK156.out 7).trans rfl
                  have hcz24_8 : wc.cell? ⟨gb156, 8, none⟩ = some (.string a0_8) := (blk_cell BK156.out 8).trans rfl
                  have hcz24_9 : wc.cell? ⟨gb156, 9, none⟩ = some (.int .i64 a0_9) := (blk_cell BK156.out 9).trans rfl
                  have hfz24_0 := blk_frozen BK156.out 0
                  have hfz24_1 := blk_frozen BK156.out 1
                  have hfz24_2 := blk_frozen BK156.out 2
                  have hfz24_3 := blk_frozen BK156.out 3
                  have hfz24_4 := blk_frozen BK156.out 4
                  have hfz24_5 := blk_frozen BK156.out 5
                  have hfz24_6 := blk_frozen BK156.out 6
                  have hfz24_7 := blk_frozen BK156.out 7
                  have hfz24_8 := blk_frozen BK156.out 8
                  have hfz24_9 := blk_frozen BK156.out 9
                  obtain ⟨HGz25, hgz25⟩ := HI1.out
                  have hcz25_0 := cellS45_0 HGz25
                  have hcz25_1 := cellS45_1 HGz25
                  have hcz25_2 := cellS45_2 HGz25
                  have hcz25_3 := cellS45_3 HGz25
                  have hcz25_4 := cellS45_4 HGz25
                  have hcz25_5 := cellS45_5 HGz25
                  have hcz25_6 := cellS45_6 HGz25
                  have hcz25_7 := cellS45_7 HGz25
                  have hcz25_8 := cellS45_8 HGz25
                  have hcz25_9 := cellS45_9 HGz25
                  have hfz25_0 := blk_frozen HGz25 0
                  have hfz25_1 := blk_frozen HGz25 1
                  have hfz25_2 := blk_frozen HGz25 2
                  have hfz25_3 := blk_frozen HGz25 3
                  have hfz25_4 := blk_frozen HGz25 4
                  have hfz25_5 := blk_frozen HGz25 5
                  have hfz25_6 := blk_frozen HGz25 6
                  have hfz25_7 := blk_frozen HGz25 7
                  have hfz25_8 := blk_frozen HGz25 8
                  have hfz25_9 := blk_frozen HGz25 9
                  clear HGz25 hgz25
                  go_wp2_with (first | ((with_reducible refine gate_callee (f := 72) rfl ?_); refine goesL_ (some 39) rfl rfl Tryd.func72 (by kernel_rfl) rfl #[.string a0_6] rfl (by (try simp only [List.map_toArray, List.map_cons, List.map_nil]); first | done | rfl | (simp only [List.length_drop, List.length_take]; rfl)) ?_; (with_reducible refine (trammelref1_NameMay.calls kj11 a0_6 true _ A20.out).mono ?_); rintro e w' ⟨rfl, ⟨nd, rfl⟩⟩; refine ⟨_, rfl, ?_⟩) | (go_at_call 72; (with_reducible refine (trammelref1_NameMay.calls kj11 a0_7 t160 _ A22.out).mono ?_); rintro e w' ⟨rfl, ⟨nd, rfl⟩⟩))
                  go_ret
                  exact ⟨by first | rfl | (simp [errW_none, errW_some] <;> rfl) | (simp [*, errW_none, errW_some] <;> rfl), by repeat (first | (with_reducible first | exact HI1.out | apply IsS45.alloc | apply IsS45.drewN | apply IsS45.drew | apply IsS45.set_0 | apply IsS45.set_1 | apply IsS45.set_2 | apply IsS45.set_3 | apply IsS45.set_4 | apply IsS45.set_5 | apply IsS45.set_6 | apply IsS45.set_7 | apply IsS45.set_8 | apply IsS45.set_9 | refine IsS45.far ?_ NB1_156.out _) | exact HI1.out), by repeat (first | (with_reducible first | exact HB.out | apply below_alloc | apply pw_below_drewN | apply below_drew1 | refine below_set ?_ (IsS45.ge HI1.out) | refine below_set ?_ GE156.out) | exact HB.out), by repeat (first | (with_reducible first | exact HK.out | apply KeepBut.set_ | apply keep_drewN | apply keep_drew | apply keep_alloc | refine keep_far ?_ GW156.out _) | exact HK.out)⟩
                · replace c21 := Bool.eq_false_iff.mpr c21
                  subst c21
                  have H1 : (some (false, s1_0, s1_1, s1_2, s1_3, s1_4, s1_5, a0_6, a0_7, s1_8, s1_9)) = some (r1, r2, r3, r4, r5, r6, r7, r8, r9, r10, r11) := by rw [if_neg (show ¬ (false = true) by decide)] at H; exact H
                  clear H
                  have H := H1
                  clear H1
                  simp only [Option.some.injEq, Prod.mk.injEq] at H
                  obtain ⟨rfl, rfl, rfl, rfl, rfl, rfl, rfl, rfl, rfl, rfl, rfl⟩ := H
                  have hnb26 := NB156_1.out
                  have hnc26 := NB1_156.out
                  have hcz27_0 : wc.cell? ⟨gb156, 0, none⟩ = some (.int .i64 a0_0) := (blk_cell BK156.out 0).trans rfl
                  have hcz27_1 : wc.cell? ⟨gb156, 1, none⟩ = some (.int .i64 a0_1) := (blk_cell BK156.out 1).trans rfl
                  have hcz27_2 : wc.cell? ⟨gb156, 2, none⟩ = some (.int .i64 a0_2) := (blk_cell BK156.out 2).trans rfl
                  have hcz27_3 : wc.cell? ⟨gb156, 3, none⟩ = some (.int .i64 a0_3) := (blk_cell BK156.out 3).trans rfl
                  have hcz27_4 : wc.cell? ⟨gb156, 4, none⟩ = some (.int .i64 a0_4) := (blk_cell BK156.out 4).trans rfl
                  have hcz27_5 : wc.cell? ⟨gb156, 5, none⟩ = some (.string a0_5) := (blk_cell BK156.out 5).trans rfl
                  have hcz27_6 : wc.cell? ⟨gb156, 6, none⟩ = some (.string a0_6) := (blk_cell BK156.out 6).trans rfl
                  have hcz27_7 : wc.cell? ⟨gb156, 7, none⟩ = some (.string a0_7) := (blk_cell BK156.out 7).trans rfl
                  have hcz27_8 : wc.cell? ⟨gb156, 8, none⟩ = some (.string a0_8) := (blk_cell BK156.out 8).trans rfl
                  have hcz27_9 : wc.cell? ⟨gb156, 9, none⟩ = some (.int .i64 a0_9) := (blk_cell BK156.out 9).trans rfl
                  have hfz27_0 := blk_frozen BK156.out 0
                  have hfz27_1 := blk_frozen BK156.out 1
                  have hfz27_2 := blk_frozen BK156.out 2
                  have hfz27_3 := blk_frozen BK156.out 3
                  have hfz27_4 := blk_frozen BK156.out 4
                  have hfz27_5 := blk_frozen BK156.out 5
                  have hfz27_6 := blk_frozen BK156.out 6
                  have hfz27_7 := blk_frozen BK156.out 7
                  have hfz27_8 := blk_frozen BK156.out 8
                  have hfz27_9 := blk_frozen BK156.out 9
                  obtain ⟨HGz28, hgz28⟩ := HI1.out
                  have hcz28_0 := cellS45_0 HGz28
                  have hcz28_1 := cellS45_1 HGz28
                  have hcz28_2 := cellS45_2 HGz28
                  have hcz28_3 := cellS45_3 HGz28
                  have hcz28_4 := cellS45_4 HGz28
                  have hcz28_5 := cellS45_5 HGz28
                  have hcz28_6 := cellS45_6 HGz28
                  have hcz28_7 := cellS45_7 HGz28
                  have hcz28_8 := cellS45_8 HGz28
                  have hcz28_9 := cellS45_9 HGz28
                  have hfz28_0 := blk_frozen HGz28 0
                  have hfz28_1 := blk_frozen HGz28 1
                  have hfz28_2 := blk_frozen HGz28 2
                  have hfz28_3 := blk_frozen HGz28 3
                  have hfz28_4 := blk_frozen HGz28 4
                  have hfz28_5 := blk_frozen HGz28 5
                  have hfz28_6 := blk_frozen HGz28 6
                  have hfz28_7 := blk_frozen HGz28 7
                  have hfz28_8 := blk_frozen HGz28 8
                  have hfz28_9 := blk_frozen HGz28 9
                  clear HGz28 hgz28
                  go_wp2_with (first | ((with_reducible refine gate_callee (f := 72) rfl ?_); refine goesL_ (some 39) rfl rfl Tryd.func72 (by kernel_rfl) rfl #[.string a0_6] rfl (by (try simp only [List.map_toArray, List.map_cons, List.map_nil]); first | done | rfl | (simp only [List.length_drop, List.length_take]; rfl)) ?_; (with_reducible refine (trammelref1_NameMay.calls kj11 a0_6 false _ A20.out).mono ?_); rintro e w' ⟨rfl, ⟨nd, rfl⟩⟩; refine ⟨_, rfl, ?_⟩))
                  go_ret
                  exact ⟨by first | rfl | (simp [errW_none, errW_some] <;> rfl) | (simp [*, errW_none, errW_some] <;> rfl), by repeat (first | (with_reducible first | exact HI1.out | apply IsS45.alloc | apply IsS45.drewN | apply IsS45.drew | apply IsS45.set_0 | apply IsS45.set_1 | apply IsS45.set_2 | apply IsS45.set_3 | apply IsS45.set_4 | apply IsS45.set_5 | apply IsS45.set_6 | apply IsS45.set_7 | apply IsS45.set_8 | apply IsS45.set_9 | refine IsS45.far ?_ NB1_156.out _) | exact HI1.out), by repeat (first | (with_reducible first | exact HB.out | apply below_alloc | apply pw_below_drewN | apply below_drew1 | refine below_set ?_ (IsS45.ge HI1.out) | refine below_set ?_ GE156.out) | exact HB.out), by repeat (first | (with_reducible first | exact HK.out | apply KeepBut.set_ | apply keep_drewN | apply keep_drew | apply keep_alloc | refine keep_far ?_ GW156.out _) | exact HK.out)⟩
              · rw [if_neg c19] at H
                have c19b0 : (a0_0 == 6) = false := beq_eq_false_iff_ne.mpr c19
                have c19b1 : (a0_0 != 6) = true := bne_iff_ne.mpr c19
                by_cases c29 : a0_0 = 10
                · rw [if_pos c29] at H
                  have c29b0 : (a0_0 == 10) = true := beq_iff_eq.mpr c29
                  have c29b1 : (a0_0 != 10) = false := bne_eq_false_iff_eq.mpr c29
                  clear c29
                  replace H := Option.bind_eq_some_iff.mp H
                  obtain ⟨t161, A300, H⟩ := H
                  replace H : (if t161 = true then ((trammelref1_NameMay.f kj11 a0_6).bind fun t162 => (if t162 = true then ((trammelref1_NameMay.f kj11 a0_7).bind fun t163 => (if t163 = true then ((trammelref1_NameMay.f kj11 a0_8).bind fun t164 => (some (t164, s1_0, s1_1, s1_2, s1_3, s1_4, s1_5, a0_6, a0_7, a0_8, s1_9))) else (some (false, s1_0, s1_1, s1_2, s1_3, s1_4, s1_5, a0_6, a0_7, a0_8, s1_9)))) else (some (false, s1_0, s1_1, s1_2, s1_3, s1_4, s1_5, a0_6, a0_7, a0_8, s1_9)))) else (some (false, s1_0, s1_1, s1_2, s1_3, s1_4, s1_5, a0_6, a0_7, a0_8, s1_9))) = some (r1, r2, r3, r4, r5, r6, r7, r8, r9, r10, r11) := H
                  have A30 := Aside0.mk A300
                  clear A300
                  by_cases c31 : t161 = true
                  · subst c31
                    have H1 : ((trammelref1_NameMay.f kj11 a0_6).bind fun t162 => (if t162 = true then ((trammelref1_NameMay.f kj11 a0_7).bind fun t163 => (if t163 = true then ((trammelref1_NameMay.f kj11 a0_8).bind fun t164 => (some (t164, s1_0, s1_1, s1_2, s1_3, s1_4, s1_5, a0_6, a0_7, a0_8, s1_9))) else (some (false, s1_0, s1_1, s1_2, s1_3, s1_4, s1_5, a0_6, a0_7, a0_8, s1_9)))) else (some (false, s1_0, s1_1, s1_2, s1_3, s1_4, s1_5, a0_6, a0_7, a0_8, s1_9)))) = some (r1, r2, r3, r4, r5, r6, r7, r8, r9, r10, r11) := by rw [if_pos rfl] at H; exact H
                    clear H
                    have H := H1
                    clear H1
                    replace H := Option.bind_eq_some_iff.mp H
                    obtain ⟨t162, A320, H⟩ := H
                    replace H : (if t162 = true then ((trammelref1_NameMay.f kj11 a0_7).bind fun t163 => (if t163 = true then ((trammelref1_NameMay.f kj11 a0_8).bind fun t164 => (some (t164, s1_0, s1_1, s1_2, s1_3, s1_4, s1_5, a0_6, a0_7, a0_8, s1_9))) else (some (false, s1_0, s1_1, s1_2, s1_3, s1_4, s1_5, a0_6, a0_7, a0_8, s1_9)))) else (some (false, s1_0, s1_1, s1_2, s1_3, s1_4, s1_5, a0_6, a0_7, a0_8, s1_9))) = some (r1, r2, r3, r4, r5, r6, r7, r8, r9, r10, r11) := H
                    have A32 := Aside0.mk A320
                    clear A320
                    by_cases c33 : t162 = true
                    · subst c33
                      have H1 : ((trammelref1_NameMay.f kj11 a0_7).bind fun t163 => (if t163 = true then ((trammelref1_NameMay.f kj11 a0_8).bind fun t164 => (some (t164, s1_0, s1_1, s1_2, s1_3, s1_4, s1_5, a0_6, a0_7, a0_8, s1_9))) else (some (false, s1_0, s1_1, s1_2, s1_3, s1_4, s1_5, a0_6, a0_7, a0_8, s1_9)))) = some (r1, r2, r3, r4, r5, r6, r7, r8, r9, r10, r11) := by rw [if_pos rfl] at H; exact H
                      clear H
                      have H := H1
                      clear H1
                      replace H := Option.bind_eq_some_iff.mp H
                      obtain ⟨t163, A340, H⟩ := H
                      replace H : (if t163 = true then ((trammelref1_NameMay.f kj11 a0_8).bind fun t164 => (some (t164, s1_0, s1_1, s1_2, s1_3, s1_4, s1_5, a0_6, a0_7, a0_8, s1_9))) else (some (false, s1_0, s1_1, s1_2, s1_3, s1_4, s1_5, a0_6, a0_7, a0_8, s1_9))) = some (r1, r2, r3, r4, r5, r6, r7, r8, r9, r10, r11) := H
                      have A34 := Aside0.mk A340
                      clear A340
                      by_cases c35 : t163 = true
                      · subst c35
                        have H1 : ((trammelref1_NameMay.f kj11 a0_8).bind fun t164 => (some (t164, s1_0, s1_1, s1_2, s1_3, s1_4, s1_5, a0_6, a0_7, a0_8, s1_9))) = some (r1, r2, r3, r4, r5, r6, r7, r8, r9, r10, r11) := by rw [if_pos rfl] at H; exact H
                        clear H
                        have H := H1
                        clear H1
                        replace H := Option.bind_eq_some_iff.mp H
                        obtain ⟨t164, A360, H⟩ := H
                        replace H : (some (t164, s1_0, s1_1, s1_2, s1_3, s1_4, s1_5, a0_6, a0_7, a0_8, s1_9)) = some (r1, r2, r3, r4, r5, r6, r7, r8, r9, r10, r11) := H
                        have A36 := Aside0.mk A360
                        clear A360
                        simp only [Option.some.injEq, Prod.mk.injEq] at H
                        obtain ⟨rfl, rfl, rfl, rfl, rfl, rfl, rfl, rfl, rfl, rfl, rfl⟩ := H
                        have hnb37 := NB156_1.out
                        have hnc37 := NB1_156.out
                        have hcz38_0 : wc.cell? ⟨gb156, 0, none⟩ = some (.int .i64 a0_0) := (blk_cell BK156.out 0).trans rfl
                        have hcz38_1 : wc.cell? ⟨gb156, 1, none⟩ = some (.int .i64 a0_1) := (blk_cell BK156.out 1).trans rfl
                        have hcz38_2 : wc.cell? ⟨gb156, 2, none⟩ = some (.int .i64 a0_2) := (blk_cell BK156.out 2).trans rfl
                        have hcz38_3 : wc.cell? ⟨gb156, 3, none⟩ = some (.int .i64 a0_3) := (blk_cell BK156.out 3).trans rfl
                        have hcz38_4 : wc.cell? ⟨gb156, 4, none⟩ = some (.int .i64 a0_4) := (blk_cell BK156.out 4).trans rfl
                        have hcz38_5 : wc.cell? ⟨gb156, 5, none⟩ = some (.string a0_5) := (blk_cell BK156.out 5).trans rfl
                        have hcz38_6 : wc.cell? ⟨gb156, 6, none⟩ = some (.string a0_6) := (blk_cell BK156.out 6).trans rfl
                        have hcz38_7 : wc.cell? ⟨gb156, 7, none⟩ = some (.string a0_7) := (blk_cell BK156.out 7).trans rfl
                        have hcz38_8 : wc.cell? ⟨gb156, 8, none⟩ = some (.string a0_8) := (blk_cell BK156.out 8).trans rfl
                        have hcz38_9 : wc.cell? ⟨gb156, 9, none⟩ = some (.int .i64 a0_9) := (blk_cell BK156.out 9).trans rfl
                        have hfz38_0 := blk_frozen BK156.out 0
                        have hfz38_1 := blk_frozen BK156.out 1
                        have hfz38_2 := blk_frozen BK156.out 2
                        have hfz38_3 := blk_frozen BK156.out 3
                        have hfz38_4 := blk_frozen BK156.out 4
                        have hfz38_5 := blk_frozen BK156.out 5
                        have hfz38_6 := blk_frozen BK156.out 6
                        have hfz38_7 := blk_frozen BK156.out 7
                        have hfz38_8 := blk_frozen BK156.out 8
                        have hfz38_9 := blk_frozen BK156.out 9
                        obtain ⟨HGz39, hgz39⟩ := HI1.out
                        have hcz39_0 := cellS45_0 HGz39
                        have hcz39_1 := cellS45_1 HGz39
                        have hcz39_2 := cellS45_2 HGz39
                        have hcz39_3 := cellS45_3 HGz39
                        have hcz39_4 := cellS45_4 HGz39
                        have hcz39_5 := cellS45_5 HGz39
                        have hcz39_6 := cellS45_6 HGz39
                        have hcz39_7 := cellS45_7 HGz39
                        have hcz39_8 := cellS45_8 HGz39
                        have hcz39_9 := cellS45_9 HGz39
                        have hfz39_0 := blk_frozen HGz39 0
                        have hfz39_1 := blk_frozen HGz39 1
                        have hfz39_2 := blk_frozen HGz39 2
                        have hfz39_3 := blk_frozen HGz39 3
                        have hfz39_4 := blk_frozen HGz39 4
                        have hfz39_5 := blk_frozen HGz39 5
                        have hfz39_6 := blk_frozen HGz39 6
                        have hfz39_7 := blk_frozen HGz39 7
                        have hfz39_8 := blk_frozen HGz39 8
                        have hfz39_9 := blk_frozen HGz39 9
                        clear HGz39 hgz39
                        go_wp2_with (first | ((with_reducible refine gate_callee (f := 72) rfl ?_); refine goesL_ (some 64) rfl rfl Tryd.func72 (by kernel_rfl) rfl #[.string a0_5] rfl (by (try simp only [List.map_toArray, List.map_cons, List.map_nil]); first | done | rfl | (simp only [List.length_drop, List.length_take]; rfl)) ?_; (with_reducible refine (trammelref1_NameMay.calls kj11 a0_5 true _ A30.out).mono ?_); rintro e w' ⟨rfl, ⟨nd, rfl⟩⟩; refine ⟨_, rfl, ?_⟩) | (go_at_call 72; (with_reducible refine (trammelref1_NameMay.calls kj11 a0_6 true _ A32.out).mono ?_); rintro e w' ⟨rfl, ⟨nd, rfl⟩⟩) | (go_at_call 72; (with_reducible refine (trammelref1_NameMay.calls kj11 a0_7 true _ A34.out).mono ?_); rintro e w' ⟨rfl, ⟨nd, rfl⟩⟩) | (go_at_call 72; (with_reducible refine (trammelref1_NameMay.calls kj11 a0_8 t164 _ A36.out).mono ?_); rintro e w' ⟨rfl, ⟨nd, rfl⟩⟩))
                        go_ret
                        exact ⟨by first | rfl | (simp [errW_none, errW_some] <;> rfl) | (simp [*, errW_none, errW_some] <;> rfl), by repeat (first | (with_reducible first | exact HI1.out | apply IsS45.alloc | apply IsS45.drewN | apply IsS45.drew | apply IsS45.set_0 | apply IsS45.set_1 | apply IsS45.set_2 | apply IsS45.set_3 | apply IsS45.set_4 | apply IsS45.set_5 | apply IsS45.set_6 | apply IsS45.set_7 | apply IsS45.set_8 | apply IsS45.set_9 | refine IsS45.far ?_ NB1_156.out _) | exact HI1.out), by repeat (first | (with_reducible first | exact HB.out | apply below_alloc | apply pw_below_drewN | apply below_drew1 | refine below_set ?_ (IsS45.ge HI1.out) | refine below_set ?_ GE156.out) | exact HB.out), by repeat (first | (with_reducible first | exact HK.out | apply KeepBut.set_ | apply keep_drewN | apply keep_drew | apply keep_alloc | refine keep_far ?_ GW156.out _) | exact HK.out)⟩
                      · replace c35 := Bool.eq_false_iff.mpr c35
                        subst c35
                        have H1 : (some (false, s1_0, s1_1, s1_2, s1_3, s1_4, s1_5, a0_6, a0_7, a0_8, s1_9)) = some (r1, r2, r3, r4, r5, r6, r7, r8, r9, r10, r11) := by rw [if_neg (show ¬ (false = true) by decide)] at H; exact H
                        clear H
                        have H := H1
                        clear H1
                        simp only [Option.some.injEq, Prod.mk.injEq] at H
                        obtain ⟨rfl, rfl, rfl, rfl, rfl, rfl, rfl, rfl, rfl, rfl, rfl⟩ := H
                        have hnb40 := NB156_1.out
                        have hnc40 := NB1_156.out
                        have hcz41_0 : wc.cell? ⟨gb156, 0, none⟩ = some (.int .i64 a0_0) := (blk_cell BK156.out 0).trans rfl
                        have hcz41_1 : wc.cell? ⟨gb156, 1, none⟩ = some (.int .i64 a0_1) := (blk_cell BK156.out 1).trans rfl
                        have hcz41_2 : wc.cell? ⟨gb156, 2, none⟩ = some (.int .i64 a0_2) := (blk_cell BK156.out 2).trans rfl
                        have hcz41_3 : wc.cell? ⟨gb156, 3, none⟩ = some (.int .i64 a0_3) := (blk_cell BK156.out 3).trans rfl
                        have hcz41_4 : wc.cell? ⟨gb156, 4, none⟩ = some (.int .i64 a0_4) := (blk_cell BK156.out 4).trans rfl
                        have hcz41_5 : wc.cell? ⟨gb156, 5, none⟩ = some (.string a0_5) := (blk_cell BK156.out 5).trans rfl
                        have hcz41_6 : wc.cell? ⟨gb156, 6, none⟩ = some (.string a0_6) := (blk_cell BK156.out 6).trans rfl
                        have hcz41_7 : wc.cell? ⟨gb156, 7, none⟩ = some (.string a0_7) := (blk_cell BK156.out 7).trans rfl
                        have hcz41_8 : wc.cell? ⟨gb156, 8, none⟩ = some (.string a0_8) := (blk_cell BK156.out 8).trans rfl
                        have hcz41_9 : wc.cell? ⟨gb156, 9, none⟩ = some (.int .i64 a0_9) := (blk_cell BK156.out 9).trans rfl
                        have hfz41_0 := blk_frozen BK156.out 0
                        have hfz41_1 := blk_frozen BK156.out 1
                        have hfz41_2 := blk_frozen BK156.out 2
                        have hfz41_3 := blk_frozen BK156.out 3
                        have hfz41_4 := blk_frozen BK156.out 4
                        have hfz41_5 := blk_frozen BK156.out 5
                        have hfz41_6 := blk_frozen BK156.out 6
                        have hfz41_7 := blk_frozen BK156.out 7
                        have hfz41_8 := blk_frozen BK156.out 8
                        have hfz41_9 := blk_frozen BK156.out 9
                        obtain ⟨HGz42, hgz42⟩ := HI1.out
                        have hcz42_0 := cellS45_0 HGz42
                        have hcz42_1 := cellS45_1 HGz42
                        have hcz42_2 := cellS45_2 HGz42
                        have hcz42_3 := cellS45_3 HGz42
                        have hcz42_4 := cellS45_4 HGz42
                        have hcz42_5 := cellS45_5 HGz42
                        have hcz42_6 := cellS45_6 HGz42
                        have hcz42_7 := cellS45_7 HGz42
                        have hcz42_8 := cellS45_8 HGz42
                        have hcz42_9 := cellS45_9 HGz42
                        have hfz42_0 := blk_frozen HGz42 0
                        have hfz42_1 := blk_frozen HGz42 1
                        have hfz42_2 := blk_frozen HGz42 2
                        have hfz42_3 := blk_frozen HGz42 3
                        have hfz42_4 := blk_frozen HGz42 4
                        have hfz42_5 := blk_frozen HGz42 5
                        have hfz42_6 := blk_frozen HGz42 6
                        have hfz42_7 := blk_frozen HGz42 7
                        have hfz42_8 := blk_frozen HGz42 8
                        have hfz42_9 := blk_frozen HGz42 9
                        clear HGz42 hgz42
                        go_wp2_with (first | ((with_reducible refine gate_callee (f := 72) rfl ?_); refine goesL_ (some 64) rfl rfl Tryd.func72 (by kernel_rfl) rfl #[.string a0_5] rfl (by (try simp only [List.map_toArray, List.map_cons, List.map_nil]); first | done | rfl | (simp only [List.length_drop, List.length_take]; rfl)) ?_; (with_reducible refine (trammelref1_NameMay.calls kj11 a0_5 true _ A30.out).mono ?_); rintro e w' ⟨rfl, ⟨nd, rfl⟩⟩; refine ⟨_, rfl, ?_⟩) | (go_at_call 72; (with_reducible refine (trammelref1_NameMay.calls kj11 a0_6 true _ A32.out).mono ?_); rintro e w' ⟨rfl, ⟨nd, rfl⟩⟩) | (go_at_call 72; (with_reducible refine (trammelref1_NameMay.calls kj11 a0_7 false _ A34.out).mono ?_); rintro e w' ⟨rfl, ⟨nd, rfl⟩⟩))
                        go_ret
                        exact ⟨by first | rfl | (simp [errW_none, errW_some] <;> rfl) | (simp [*, errW_none, errW_some] <;> rfl), by repeat (first | (with_reducible first | exact HI1.out | apply IsS45.alloc | apply IsS45.drewN | apply IsS45.drew | apply IsS45.set_0 | apply IsS45.set_1 | apply IsS45.set_2 | apply IsS45.set_3 | apply IsS45.set_4 | apply IsS45.set_5 | apply IsS45.set_6 | apply IsS45.set_7 | apply IsS45.set_8 | apply IsS45.set_9 | refine IsS45.far ?_ NB1_156.out _) | exact HI1.out), by repeat (first | (with_reducible first | exact HB.out | apply below_alloc | apply pw_below_drewN | apply below_drew1 | refine below_set ?_ (IsS45.ge HI1.out) | refine below_set ?_ GE156.out) | exact HB.out), by repeat (first | (with_reducible first | exact HK.out | apply KeepBut.set_ | apply keep_drewN | apply keep_drew | apply keep_alloc | refine keep_far ?_ GW156.out _) | exact HK.out)⟩
                    · replace c33 := Bool.eq_false_iff.mpr c33
                      subst c33
                      have H1 : (some (false, s1_0, s1_1, s1_2, s1_3, s1_4, s1_5, a0_6, a0_7, a0_8, s1_9)) = some (r1, r2, r3, r4, r5, r6, r7, r8, r9, r10, r11) := by rw [if_neg (show ¬ (false = true) by decide)] at H; exact H
                      clear H
                      have H := H1
                      clear H1
                      simp only [Option.some.injEq, Prod.mk.injEq] at H
                      obtain ⟨rfl, rfl, rfl, rfl, rfl, rfl, rfl, rfl, rfl, rfl, rfl⟩ := H
                      have hnb43 := NB156_1.out
                      have hnc43 := NB1_156.out
                      have hcz44_0 : wc.cell? ⟨gb156, 0, none⟩ = some (.int .i64 a0_0) := (blk_cell BK156.out 0).trans rfl
                      have hcz44_1 : wc.cell? ⟨gb156, 1, none⟩ = some (.int .i64 a0_1) := (blk_cell BK156.out 1).trans rfl
                      have hcz44_2 : wc.cell? ⟨gb156, 2, none⟩ = some (.int .i64 a0_2) := (blk_cell BK156.out 2).trans rfl
                      have hcz44_3 : wc.cell? ⟨gb156, 3, none⟩ = some (.int .i64 a0_3) := (blk_cell BK156.out 3).trans rfl
                      have hcz44_4 : wc.cell? ⟨gb156, 4, none⟩ = some (.int .i64 a0_4) := (blk_cell BK156.out 4).trans rfl
                      have hcz44_5 : wc.cell? ⟨gb156, 5, none⟩ = some (.string a0_5) := (blk_cell BK156.out 5).trans rfl
                      have hcz44_6 : wc.cell? ⟨gb156, 6, none⟩ = some (.string a0_6) := (blk_cell BK156.out 6).trans rfl
                      have hcz44_7 : wc.cell? ⟨gb156, 7, none⟩ = some (.string a0_7) := (blk_cell BK156.out 7).trans rfl
                      have hcz44_8 : wc.cell? ⟨gb156, 8, none⟩ = some (.string a0_8) := (blk_cell BK156.out 8).trans rfl
                      have hcz44_9 : wc.cell? ⟨gb156, 9, none⟩ = some (.int .i64 a0_9) := (blk_cell BK156.out 9).trans rfl
                      have hfz44_0 := blk_frozen BK156.out 0
                      have hfz44_1 := blk_frozen BK156.out 1
                      have hfz44_2 := blk_frozen BK156.out 2
                      have hfz44_3 := blk_frozen BK156.out 3
                      have hfz44_4 := blk_frozen BK156.out 4
                      have hfz44_5 := blk_frozen BK156.out 5
                      have hfz44_6 := blk_frozen BK156.out 6
                      have hfz44_7 := blk_frozen BK156.out 7
                      have hfz44_8 := blk_frozen BK156.out 8
                      have hfz44_9 := blk_frozen BK156.out 9
                      obtain ⟨HGz45, hgz45⟩ := HI1.out
                      have hcz45_0 := cellS45_0 HGz45
                      have hcz45_1 := cellS45_1 HGz45
                      have hcz45_2 := cellS45_2 HGz45
                      have hcz45_3 := cellS45_3 HGz45
                      have hcz45_4 := cellS45_4 HGz45
                      have hcz45_5 := cellS45_5 HGz45
                      have hcz45_6 := cellS45_6 HGz45
                      have hcz45_7 := cellS45_7 HGz45
                      have hcz45_8 := cellS45_8 HGz45
                      have hcz45_9 := cellS45_9 HGz45
                      have hfz45_0 := blk_frozen HGz45 0
                      have hfz45_1 := blk_frozen HGz45 1
                      have hfz45_2 := blk_frozen HGz45 2
                      have hfz45_3 := blk_frozen HGz45 3
                      have hfz45_4 := blk_frozen HGz45 4
                      have hfz45_5 := blk_frozen HGz45 5
                      have hfz45_6 := blk_frozen HGz45 6
                      have hfz45_7 := blk_frozen HGz45 7
                      have hfz45_8 := blk_frozen HGz45 8
                      have hfz45_9 := blk_frozen HGz45 9
                      clear HGz45 hgz45
                      go_wp2_with (first | ((with_reducible refine gate_callee (f := 72) rfl ?_); refine goesL_ (some 64) rfl rfl Tryd.func72 (by kernel_rfl) rfl #[.string a0_5] rfl (by (try simp only [List.map_toArray, List.map_cons, List.map_nil]); first | done | rfl | (simp only [List.length_drop, List.length_take]; rfl)) ?_; (with_reducible refine (trammelref1_NameMay.calls kj11 a0_5 true _ A30.out).mono ?_); rintro e w' ⟨rfl, ⟨nd, rfl⟩⟩; refine ⟨_, rfl, ?_⟩) | (go_at_call 72; (with_reducible refine (trammelref1_NameMay.calls kj11 a0_6 false _ A32.out).mono ?_); rintro e w' ⟨rfl, ⟨nd, rfl⟩⟩))
                      go_ret
                      exact ⟨by first | rfl | (simp [errW_none, errW_some] <;> rfl) | (simp [*, errW_none, errW_some] <;> rfl), by repeat (first | (with_reducible first | exact HI1.out | apply IsS45.alloc | apply IsS45.drewN | apply IsS45.drew | apply IsS45.set_0 | apply IsS45.set_1 | apply IsS45.set_2 | apply IsS45.set_3 | apply IsS45.set_4 | apply IsS45.set_5 | apply IsS45.set_6 | apply IsS45.set_7 | apply IsS45.set_8 | apply IsS45.set_9 | refine IsS45.far ?_ NB1_156.out _) | exact HI1.out), by repeat (first | (with_reducible first | exact HB.out | apply below_alloc | apply pw_below_drewN | apply below_drew1 | refine below_set ?_ (IsS45.ge HI1.out) | refine below_set ?_ GE156.out) | exact HB.out), by repeat (first | (with_reducible first | exact HK.out | apply KeepBut.set_ | apply keep_drewN | apply keep_drew | apply keep_alloc | refine keep_far ?_ GW156.out _) | exact HK.out)⟩
                  · replace c31 := Bool.eq_false_iff.mpr c31
                    subst c31
                    have H1 : (some (false, s1_0, s1_1, s1_2, s1_3, s1_4, s1_5, a0_6, a0_7, a0_8, s1_9)) = some (r1, r2, r3, r4, r5, r6, r7, r8, r9, r10, r11) := by rw [if_neg (show ¬ (false = true) by decide)] at H; exact H
                    clear H
                    have H := H1
                    clear H1
                    simp only [Option.some.injEq, Prod.mk.injEq] at H
                    obtain ⟨rfl, rfl, rfl, rfl, rfl, rfl, rfl, rfl, rfl, rfl, rfl⟩ := H
                    have hnb46 := NB156_1.out
                    have hnc46 := NB1_156.out
                    have hcz47_0 : wc.cell? ⟨gb156, 0, none⟩ = some (.int .i64 a0_0) := (blk_cell BK156.out 0).trans rfl
                    have hcz47_1 : wc.cell? ⟨gb156, 1, none⟩ = some (.int .i64 a0_1) := (blk_cell BK156.out 1).trans rfl
                    have hcz47_2 : wc.cell? ⟨gb156, 2, none⟩ = some (.int .i64 a0_2) := (blk_cell BK156.out 2).trans rfl
                    have hcz47_3 : wc.cell? ⟨gb156, 3, none⟩ = some (.int .i64 a0_3) := (blk_cell BK156.out 3).trans rfl
                    have hcz47_4 : wc.cell? ⟨gb156, 4, none⟩ = some (.int .i64 a0_4) := (blk_cell BK156.out 4).trans rfl
                    have hcz47_5 : wc.cell? ⟨gb156, 5, none⟩ = some (.string a0_5) := (blk_cell BK156.out 5).trans rfl
                    have hcz47_6 : wc.cell? ⟨gb156, 6, none⟩ = some (.string a0_6) := (blk_cell BK156.out 6).trans rfl
                    have hcz47_7 : wc.cell? ⟨gb156, 7, none⟩ = some (.string a0_7) := (blk_cell BK156.out 7).trans rfl
                    have hcz47_8 : wc.cell? ⟨gb156, 8, none⟩ = some (.string a0_8) := (blk_cell BK156.out 8).trans rfl
                    have hcz47_9 : wc.cell? ⟨gb156, 9, none⟩ = some (.int .i64 a0_9) := (blk_cell BK156.out 9).trans rfl
                    have hfz47_0 := blk_frozen BK156.out 0
                    have hfz47_1 := blk_frozen BK156.out 1
                    have hfz47_2 := blk_frozen BK156.out 2
                    have hfz47_3 := blk_frozen BK156.out 3
                    have hfz47_4 := blk_frozen BK156.out 4
                    have hfz47_5 := blk_frozen BK156.out 5
                    have hfz47_6 := blk_frozen BK156.out 6
                    have hfz47_7 := blk_frozen BK156.out 7
                    have hfz47_8 := blk_frozen BK156.out 8
                    have hfz47_9 := blk_frozen BK156.out 9
                    obtain ⟨HGz48, hgz48⟩ := HI1.out
                    have hcz48_0 := cellS45_0 HGz48
                    have hcz48_1 := cellS45_1 HGz48
                    have hcz48_2 := cellS45_2 HGz48
                    have hcz48_3 := cellS45_3 HGz48
                    have hcz48_4 := cellS45_4 HGz48
                    have hcz48_5 := cellS45_5 HGz48
                    have hcz48_6 := cellS45_6 HGz48
                    have hcz48_7 := cellS45_7 HGz48
                    have hcz48_8 := cellS45_8 HGz48
                    have hcz48_9 := cellS45_9 HGz48
                    have hfz48_0 := blk_frozen HGz48 0
                    have hfz48_1 := blk_frozen HGz48 1
                    have hfz48_2 := blk_frozen HGz48 2
                    have hfz48_3 := blk_frozen HGz48 3
                    have hfz48_4 := blk_frozen HGz48 4
                    have hfz48_5 := blk_frozen HGz48 5
                    have hfz48_6 := blk_frozen HGz48 6
                    have hfz48_7 := blk_frozen HGz48 7
                    have hfz48_8 := blk_frozen HGz48 8
                    have hfz48_9 := blk_frozen HGz48 9
                    clear HGz48 hgz48
                    go_wp2_with (first | ((with_reducible refine gate_callee (f := 72) rfl ?_); refine goesL_ (some 64) rfl rfl Tryd.func72 (by kernel_rfl) rfl #[.string a0_5] rfl (by (try simp only [List.map_toArray, List.map_cons, List.map_nil]); first | done | rfl | (simp only [List.length_drop, List.length_take]; rfl)) ?_; (with_reducible refine (trammelref1_NameMay.calls kj11 a0_5 false _ A30.out).mono ?_); rintro e w' ⟨rfl, ⟨nd, rfl⟩⟩; refine ⟨_, rfl, ?_⟩))
                    go_ret
                    exact ⟨by first | rfl | (simp [errW_none, errW_some] <;> rfl) | (simp [*, errW_none, errW_some] <;> rfl), by repeat (first | (with_reducible first | exact HI1.out | apply IsS45.alloc | apply IsS45.drewN | apply IsS45.drew | apply IsS45.set_0 | apply IsS45.set_1 | apply IsS45.set_2 | apply IsS45.set_3 | apply IsS45.set_4 | apply IsS45.set_5 | apply IsS45.set_6 | apply IsS45.set_7 | apply IsS45.set_8 | apply IsS45.set_9 | refine IsS45.far ?_ NB1_156.out _) | exact HI1.out), by repeat (first | (with_reducible first | exact HB.out | apply below_alloc | apply pw_below_drewN | apply below_drew1 | refine below_set ?_ (IsS45.ge HI1.out) | refine below_set ?_ GE156.out) | exact HB.out), by repeat (first | (with_reducible first | exact HK.out | apply KeepBut.set_ | apply keep_drewN | apply keep_drew | apply keep_alloc | refine keep_far ?_ GW156.out _) | exact HK.out)⟩
                · rw [if_neg c29] at H
                  have c29b0 : (a0_0 == 10) = false := beq_eq_false_iff_ne.mpr c29
                  have c29b1 : (a0_0 != 10) = true := bne_iff_ne.mpr c29
                  simp only [Option.some.injEq, Prod.mk.injEq] at H
                  obtain ⟨rfl, rfl, rfl, rfl, rfl, rfl, rfl, rfl, rfl, rfl, rfl⟩ := H
                  go_wp2
                  go_ret
                  exact ⟨by first | rfl | (simp [errW_none, errW_some] <;> rfl) | (simp [*, errW_none, errW_some] <;> rfl), by repeat (first | (with_reducible first | exact HI1.out | apply IsS45.alloc | apply IsS45.drewN | apply IsS45.drew | apply IsS45.set_0 | apply IsS45.set_1 | apply IsS45.set_2 | apply IsS45.set_3 | apply IsS45.set_4 | apply IsS45.set_5 | apply IsS45.set_6 | apply IsS45.set_7 | apply IsS45.set_8 | apply IsS45.set_9 | refine IsS45.far ?_ NB1_156.out _) | exact HI1.out), by repeat (first | (with_reducible first | exact HB.out | apply below_alloc | apply pw_below_drewN | apply below_drew1 | refine below_set ?_ (IsS45.ge HI1.out) | refine below_set ?_ GE156.out) | exact HB.out), by repeat (first | (with_reducible first | exact HK.out | apply KeepBut.set_ | apply keep_drewN | apply keep_drew | apply keep_alloc | refine keep_far ?_ GW156.out _) | exact HK.out)⟩
end Go.Proofs.YtnogfhhfklkbiaaDoor.H

namespace Go.Proofs.YtnogfhhfklkbiaaDoor.H
open Go.RowKit Go.Proofs.YtnogfhhfklkbiaaDoorW.PrintWords Go.Proofs.YtnogfhhfklkbiaaDoorW.PrintLast Go.Proofs.YtnogfhhfklkbiaaDoorW.PrintMore
attribute [local go_sem] max2_int min2_int max_two min_two max_three min_three max_four min_four
set_option linter.unusedVariables false
set_option linter.unusedSimpArgs false
def kidsN (kind : Int) : Nat := if kind = 3 ∨ kind = 9 then 1 else if kind = 4 ∨ kind = 5 ∨ kind = 6 ∨ kind = 8 then 2 else if kind = 7 ∨ kind = 10 then 3 else 0
theorem kidsN_le (kind : Int) : kidsN kind ≤ 3 := by unfold kidsN; repeat' split
                                                     all_goals omega
def kidsOf (x : S45) : List Int := [x.f1, x.f2, x.f3].take (kidsN x.f0)
def fieldPtrs (b o n : Nat) : List Value := (List.range n).map fun j => .pointer (some ⟨b, o + j, none⟩)
def ptrOf (g n : Nat) : Option Addr := if n = 0 then none else some ⟨g, 0, none⟩
theorem ptrOf_some {g n : Nat} (h : 0 < n) : ptrOf g n = some ⟨g, 0, none⟩ := by unfold ptrOf; rw [if_neg (by omega)]
def KidsPost (b o : Nat) (n : Nat) (w : World) (e : Ending) (w' : World) : Prop :=
  e = .returned (.slice (ptrOf w.heap.size n) n n) ∧ Below w.heap.size w w' ∧ (0 < n → w'.heap[w.heap.size]? = some (.cells (fieldPtrs b o n).toArray 74 (0, 0)))
set_option maxHeartbeats 1000000 in
theorem kids_zero (b o : Nat) (kind : Int) (w : World) (h : w.cell? ⟨b, o, none⟩ = some (.int .i64 kind)) (h3 : (kind == 3) = false) (h9 : (kind == 9) = false) (h4 : (kind == 4) = false) (h5 : (kind == 5) = false) (h6 : (kind == 6) = false) (h8 : (kind == 8) = false) (h7 : (kind == 7) = false) (h10 : (kind == 10) = false) :
    Calls Tryd.prog 44 #[.pointer (some ⟨b, o, none⟩)] w (KidsPost b (o + 1) 0 w) := by
  go_enter Tryd.func44, Tryd.ntmps44
  go_wp2
  go_ret
  exact ⟨rfl, Below.refl _ _, fun h => by omega⟩
set_option maxHeartbeats 4000000 in
theorem kids_some (b o : Nat) (kind : Int) (n : Nat) (w : World) (h : w.cell? ⟨b, o, none⟩ = some (.int .i64 kind)) (hk : kidsN kind = n) (hn : 0 < n) :
    Calls Tryd.prog 44 #[.pointer (some ⟨b, o, none⟩)] w (KidsPost b (o + 1) n w) := by
  have hc : (n = 1 ∧ (kind = 3 ∨ kind = 9)) ∨ (n = 2 ∧ (kind = 4 ∨ kind = 5 ∨ kind = 6 ∨ kind = 8)) ∨ (n = 3 ∧ (kind = 7 ∨ kind = 10)) := by
    unfold kidsN at hk
    split at hk
    · omega
    · split at hk
      · omega
      · split at hk
        · omega
        · omega
  clear hk hn
  rcases hc with ⟨rfl, rfl | rfl⟩ | ⟨rfl, rfl | rfl | rfl | rfl⟩ | ⟨rfl, rfl | rfl⟩
  · go_enter Tryd.func44, Tryd.ntmps44
    go_wp2
    go_ret
    exact ⟨rfl, (Below.refl _ _).alloc (Nat.le_refl _) _, fun _ => (heap_alloc_new w _).trans rfl⟩
  · go_enter Tryd.func44, Tryd.ntmps44
    go_wp2
    go_ret
    exact ⟨rfl, (Below.refl _ _).alloc (Nat.le_refl _) _, fun _ => (heap_alloc_new w _).trans rfl⟩
  all_goals
    go_enter Tryd.func44, Tryd.ntmps44
    go_wp2
    go_region
    all_goals go_wp2
    all_goals go_ret
    all_goals exact ⟨rfl, below_drew ((Below.refl _ _).alloc (Nat.le_refl _) _), fun _ => (heap_alloc_new w _).trans rfl⟩
theorem kids_calls (b o : Nat) (kind : Int) (w : World) (h : w.cell? ⟨b, o, none⟩ = some (.int .i64 kind)) :
    Calls Tryd.prog 44 #[.pointer (some ⟨b, o, none⟩)] w (KidsPost b (o + 1) (kidsN kind) w) := by
  by_cases hn : 0 < kidsN kind
  · exact kids_some b o kind _ w h rfl hn
  · have h0 : kidsN kind = 0 := by omega
    rw [h0]
    have hc : ¬ (kind = 3 ∨ kind = 9) ∧ ¬ (kind = 4 ∨ kind = 5 ∨ kind = 6 ∨ kind = 8) ∧ ¬ (kind = 7 ∨ kind = 10) := by
      unfold kidsN at h0
      refine ⟨fun h => ?_, fun h => ?_, fun h => ?_⟩
      · rw [if_pos h] at h0; omega
      · rw [if_neg (by omega), if_pos h] at h0; omega
      · rw [if_neg (by omega), if_neg (by omega), if_pos h] at h0; omega
    refine kids_zero b o kind w h ?_ ?_ ?_ ?_ ?_ ?_ ?_ ?_ <;> (rw [beq_eq_false_iff_ne]; omega)
end Go.Proofs.YtnogfhhfklkbiaaDoor.H
