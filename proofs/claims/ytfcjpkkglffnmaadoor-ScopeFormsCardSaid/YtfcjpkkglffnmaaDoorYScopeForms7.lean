/- Several texts in one: contracts of functions of the program, and what they lean on. In part written by a program of this session over the kit's print, in part by hand. -/
import Derived.Test.YtfcjpkkglffnmaaDoorYScopeForms5
import Derived.Test.YtfcjpkkglffnmaaDoorYScopeForms6
import Derived.Test.YtfcjpkkglffnmaaDoorYScopeForms4
import Derived.Deep.RegionHeld3
import Derived.ChangeAlike
import Derived.RegionTactic
import Derived.Laws.BitsLemmas
import Derived.RowKit
set_option linter.unusedVariables false
set_option linter.unusedSimpArgs false
set_option maxHeartbeats 4000000
set_option maxRecDepth 100000
namespace Go.Proofs.YtfcjpkkglffnmaaDoor.H
open Go.RowKit Go.Proofs.YtfcjpkkglffnmaaDoorW.PrintWords Go.Proofs.YtfcjpkkglffnmaaDoorW.PrintLast Go.Proofs.YtfcjpkkglffnmaaDoorW.PrintMore
theorem trammellaw6_awake.is : trammellaw6_awake.f 1300 = some true := by
  unfold trammellaw6_awake.f
  simp only [res_Q 1300 (by decide), may_Q 1300 (by decide), same_Q6]
  decide +kernel
end Go.Proofs.YtfcjpkkglffnmaaDoor.H

set_option linter.unusedVariables false
set_option linter.unusedSimpArgs false
namespace Go.Proofs.YtfcjpkkglffnmaaDoor.H
open Go.RowKit Go.Proofs.YtfcjpkkglffnmaaDoorW.PrintWords Go.Proofs.YtfcjpkkglffnmaaDoorW.PrintLast Go.Proofs.YtfcjpkkglffnmaaDoorW.PrintMore
def opA : S45 := ⟨⟨#[97]⟩, 0, 0⟩
def formRow0 : List S34 := [⟨0, 0, 0, 0, 0, ⟨#[120]⟩, ⟨#[]⟩, ⟨#[]⟩, ⟨#[]⟩, 0⟩, ⟨3, 0, 0, 0, 0, ⟨#[]⟩, ⟨#[120]⟩, ⟨#[]⟩, ⟨#[]⟩, 0⟩]
def formRow1 : List S34 := [⟨0, 0, 0, 0, 0, ⟨#[120]⟩, ⟨#[]⟩, ⟨#[]⟩, ⟨#[]⟩, 0⟩, ⟨3, 0, 0, 0, 0, ⟨#[]⟩, ⟨#[121]⟩, ⟨#[]⟩, ⟨#[]⟩, 0⟩]
def formRow2 : List S34 := [⟨0, 0, 0, 0, 0, ⟨#[120]⟩, ⟨#[]⟩, ⟨#[]⟩, ⟨#[]⟩, 0⟩, ⟨1, 0, 0, 0, 1, ⟨#[]⟩, ⟨#[]⟩, ⟨#[]⟩, ⟨#[]⟩, 0⟩, ⟨5, 0, 1, 0, 0, ⟨#[]⟩, ⟨#[120]⟩, ⟨#[]⟩, ⟨#[]⟩, 0⟩]
def formRow3 : List S34 := [⟨1, 0, 0, 0, 1, ⟨#[]⟩, ⟨#[]⟩, ⟨#[]⟩, ⟨#[]⟩, 0⟩, ⟨0, 0, 0, 0, 0, ⟨#[120]⟩, ⟨#[]⟩, ⟨#[]⟩, ⟨#[]⟩, 0⟩, ⟨5, 0, 1, 0, 0, ⟨#[]⟩, ⟨#[120]⟩, ⟨#[]⟩, ⟨#[]⟩, 0⟩]
def formRow4 : List S34 := [⟨0, 0, 0, 0, 0, ⟨#[120]⟩, ⟨#[]⟩, ⟨#[]⟩, ⟨#[]⟩, 0⟩, ⟨1, 0, 0, 0, 1, ⟨#[]⟩, ⟨#[]⟩, ⟨#[]⟩, ⟨#[]⟩, 0⟩, ⟨6, 0, 1, 0, 0, ⟨#[]⟩, ⟨#[120]⟩, ⟨#[122]⟩, ⟨#[]⟩, 0⟩]
def formRow5 : List S34 := [⟨0, 0, 0, 0, 0, ⟨#[120]⟩, ⟨#[]⟩, ⟨#[]⟩, ⟨#[]⟩, 0⟩, ⟨1, 0, 0, 0, 1, ⟨#[]⟩, ⟨#[]⟩, ⟨#[]⟩, ⟨#[]⟩, 0⟩, ⟨6, 0, 1, 0, 0, ⟨#[]⟩, ⟨#[122]⟩, ⟨#[120]⟩, ⟨#[]⟩, 0⟩]
def formRow6 : List S34 := [⟨1, 0, 0, 0, 1, ⟨#[]⟩, ⟨#[]⟩, ⟨#[]⟩, ⟨#[]⟩, 0⟩, ⟨0, 0, 0, 0, 0, ⟨#[120]⟩, ⟨#[]⟩, ⟨#[]⟩, ⟨#[]⟩, 0⟩, ⟨6, 0, 1, 0, 0, ⟨#[]⟩, ⟨#[122]⟩, ⟨#[120]⟩, ⟨#[]⟩, 0⟩]
def formRow7 : List S34 := [⟨1, 0, 0, 0, 1, ⟨#[]⟩, ⟨#[]⟩, ⟨#[]⟩, ⟨#[]⟩, 0⟩, ⟨0, 0, 0, 0, 0, ⟨#[120]⟩, ⟨#[]⟩, ⟨#[]⟩, ⟨#[]⟩, 0⟩, ⟨0, 0, 0, 0, 0, ⟨#[121]⟩, ⟨#[]⟩, ⟨#[]⟩, ⟨#[]⟩, 0⟩, ⟨10, 0, 1, 2, 0, ⟨#[97]⟩, ⟨#[120]⟩, ⟨#[122]⟩, ⟨#[121]⟩, 0⟩]
def formRow8 : List S34 := [⟨0, 0, 0, 0, 0, ⟨#[120]⟩, ⟨#[]⟩, ⟨#[]⟩, ⟨#[]⟩, 0⟩, ⟨1, 0, 0, 0, 1, ⟨#[]⟩, ⟨#[]⟩, ⟨#[]⟩, ⟨#[]⟩, 0⟩, ⟨1, 0, 0, 0, 1, ⟨#[]⟩, ⟨#[]⟩, ⟨#[]⟩, ⟨#[]⟩, 0⟩, ⟨10, 0, 1, 2, 0, ⟨#[97]⟩, ⟨#[120]⟩, ⟨#[120]⟩, ⟨#[120]⟩, 0⟩]
def formRow9 : List S34 := [⟨1, 0, 0, 0, 1, ⟨#[]⟩, ⟨#[]⟩, ⟨#[]⟩, ⟨#[]⟩, 0⟩, ⟨1, 0, 0, 0, 1, ⟨#[]⟩, ⟨#[]⟩, ⟨#[]⟩, ⟨#[]⟩, 0⟩, ⟨0, 0, 0, 0, 0, ⟨#[120]⟩, ⟨#[]⟩, ⟨#[]⟩, ⟨#[]⟩, 0⟩, ⟨10, 0, 1, 2, 0, ⟨#[97]⟩, ⟨#[120]⟩, ⟨#[120]⟩, ⟨#[121]⟩, 0⟩]
def formRow10 : List S34 := [⟨1, 0, 0, 0, 1, ⟨#[]⟩, ⟨#[]⟩, ⟨#[]⟩, ⟨#[]⟩, 0⟩, ⟨0, 0, 0, 0, 0, ⟨#[120]⟩, ⟨#[]⟩, ⟨#[]⟩, ⟨#[]⟩, 0⟩, ⟨1, 0, 0, 0, 1, ⟨#[]⟩, ⟨#[]⟩, ⟨#[]⟩, ⟨#[]⟩, 0⟩, ⟨10, 0, 1, 2, 0, ⟨#[98]⟩, ⟨#[120]⟩, ⟨#[120]⟩, ⟨#[121]⟩, 0⟩]
def formRow11 : List S34 := [⟨1, 0, 0, 0, 1, ⟨#[]⟩, ⟨#[]⟩, ⟨#[]⟩, ⟨#[]⟩, 0⟩, ⟨9, 0, 0, 0, 0, ⟨#[98]⟩, ⟨#[]⟩, ⟨#[]⟩, ⟨#[]⟩, 0⟩]
def formRow : Nat → List S34
  | 0 => formRow0
  | 1 => formRow1
  | 2 => formRow2
  | 3 => formRow3
  | 4 => formRow4
  | 5 => formRow5
  | 6 => formRow6
  | 7 => formRow7
  | 8 => formRow8
  | 9 => formRow9
  | 10 => formRow10
  | 11 => formRow11
  | _ => []
def formWant : Nat → Int
  | 0 => 0
  | 1 => 601
  | 2 => 601
  | 3 => 0
  | 4 => 0
  | 5 => 0
  | 6 => 601
  | 7 => 0
  | 8 => 601
  | 9 => 601
  | 10 => 602
  | 11 => 602
  | _ => 0
end Go.Proofs.YtfcjpkkglffnmaaDoor.H

set_option linter.unusedVariables false
set_option linter.unusedSimpArgs false
namespace Go.Proofs.YtfcjpkkglffnmaaDoor.H
open Go.RowKit Go.Proofs.YtfcjpkkglffnmaaDoorW.PrintWords Go.Proofs.YtfcjpkkglffnmaaDoorW.PrintLast Go.Proofs.YtfcjpkkglffnmaaDoorW.PrintMore
theorem flat_get : ∀ (xs : List S34) (j i : Nat) (x : S34), xs[j]? = some x → i < 10 → (xs.flatMap nodeCells)[j * 10 + i]? = (nodeCells x)[i]?
  | [], j, i, x, h, _ => by simp at h
  | y :: ys, 0, i, x, h, hi => by
    obtain rfl : y = x := by simpa using h
    rw [List.flatMap_cons, Nat.zero_mul, Nat.zero_add, List.getElem?_append_left (by show i < 10; exact hi)]
  | y :: ys, j + 1, i, x, h, hi => by
    rw [List.flatMap_cons, List.getElem?_append_right (by show 10 ≤ _; omega)]
    rw [show (j + 1) * 10 + i - (nodeCells y).length = j * 10 + i from by show (j + 1) * 10 + i - 10 = _; omega]
    exact flat_get ys j i x (by simpa using h) hi
theorem nodesC {W : World} {g : Nat} {cs : Array Value} {xs : List S34} (h : W.heap[g]? = some (.cells cs 34 (0, 0))) (hc : cs.toList = xs.flatMap nodeCells) (hl : xs.length ≤ 1000) : Kd.C k34 W (some ⟨g, 0, none⟩) xs.length xs := by
  refine ⟨rfl, by omega, fun _ => ⟨_, rfl, fun j p hj => ⟨nodeCells p, rfl, k34_mk W p, fun i u hu => ?_⟩⟩⟩
  have hi : i < 10 := (List.getElem?_eq_some_iff.1 hu).1
  rw [add_plain, show j * k34.sz + i = j * 10 + i from rfl, blk_cell h (j * 10 + i), ← Array.getElem?_toList, hc, flat_get xs j i p hj hi]
  exact hu
def opCells (x : S45) : List Value := [.string x.f0, .int .i64 x.f1, .int .i64 x.f2]
theorem flat_getO : ∀ (xs : List S45) (j i : Nat) (x : S45), xs[j]? = some x → i < 3 → (xs.flatMap opCells)[j * 3 + i]? = (opCells x)[i]?
  | [], j, i, x, h, _ => by simp at h
  | y :: ys, 0, i, x, h, hi => by
    obtain rfl : y = x := by simpa using h
    rw [List.flatMap_cons, Nat.zero_mul, Nat.zero_add, List.getElem?_append_left (by show i < 3; exact hi)]
  | y :: ys, j + 1, i, x, h, hi => by
    rw [List.flatMap_cons, List.getElem?_append_right (by show 3 ≤ _; omega)]
    rw [show (j + 1) * 3 + i - (opCells y).length = j * 3 + i from by show (j + 1) * 3 + i - 3 = _; omega]
    exact flat_getO ys j i x (by simpa using h) hi
theorem opsC {W : World} {g : Nat} {cs : Array Value} {xs : List S45} (h : W.heap[g]? = some (.cells cs 45 (0, 0))) (hc : cs.toList = xs.flatMap opCells) (hl : xs.length ≤ 1000) : Kd.C k45 W (some ⟨g, 0, none⟩) xs.length xs := by
  refine ⟨rfl, by omega, fun _ => ⟨_, rfl, fun j p hj => ⟨opCells p, rfl, k45_mk W p, fun i u hu => ?_⟩⟩⟩
  have hi : i < 3 := (List.getElem?_eq_some_iff.1 hu).1
  rw [add_plain, show j * k45.sz + i = j * 3 + i from rfl, blk_cell h (j * 3 + i), ← Array.getElem?_toList, hc, flat_getO xs j i p hj hi]
  exact hu
theorem wrapJ (j : Nat) (hj : j < 12) : wrap64 (j : Int) = (j : Int) := by unfold wrap64; omega
theorem rowPick (b j : Nat) (h : j < ([.slice (some ⟨b + 1 + 1 + 1, 0, none⟩) 2 2, .slice (some ⟨b + 1 + 1 + 1 + 1, 0, none⟩) 2 2, .slice (some ⟨b + 1 + 1 + 1 + 1 + 1, 0, none⟩) 3 3, .slice (some ⟨b + 1 + 1 + 1 + 1 + 1 + 1, 0, none⟩) 3 3, .slice (some ⟨b + 1 + 1 + 1 + 1 + 1 + 1 + 1, 0, none⟩) 3 3, .slice (some ⟨b + 1 + 1 + 1 + 1 + 1 + 1 + 1 + 1, 0, none⟩) 3 3, .slice (some ⟨b + 1 + 1 + 1 + 1 + 1 + 1 + 1 + 1 + 1, 0, none⟩) 3 3, .slice (some ⟨b + 1 + 1 + 1 + 1 + 1 + 1 + 1 + 1 + 1 + 1, 0, none⟩) 4 4, .slice (some ⟨b + 1 + 1 + 1 + 1 + 1 + 1 + 1 + 1 + 1 + 1 + 1, 0, none⟩) 4 4, .slice (some ⟨b + 1 + 1 + 1 + 1 + 1 + 1 + 1 + 1 + 1 + 1 + 1 + 1, 0, none⟩) 4 4, .slice (some ⟨b + 1 + 1 + 1 + 1 + 1 + 1 + 1 + 1 + 1 + 1 + 1 + 1 + 1, 0, none⟩) 4 4, .slice (some ⟨b + 1 + 1 + 1 + 1 + 1 + 1 + 1 + 1 + 1 + 1 + 1 + 1 + 1 + 1, 0, none⟩) 2 2] : List Value).length) : ([.slice (some ⟨b + 1 + 1 + 1, 0, none⟩) 2 2, .slice (some ⟨b + 1 + 1 + 1 + 1, 0, none⟩) 2 2, .slice (some ⟨b + 1 + 1 + 1 + 1 + 1, 0, none⟩) 3 3, .slice (some ⟨b + 1 + 1 + 1 + 1 + 1 + 1, 0, none⟩) 3 3, .slice (some ⟨b + 1 + 1 + 1 + 1 + 1 + 1 + 1, 0, none⟩) 3 3, .slice (some ⟨b + 1 + 1 + 1 + 1 + 1 + 1 + 1 + 1, 0, none⟩) 3 3, .slice (some ⟨b + 1 + 1 + 1 + 1 + 1 + 1 + 1 + 1 + 1, 0, none⟩) 3 3, .slice (some ⟨b + 1 + 1 + 1 + 1 + 1 + 1 + 1 + 1 + 1 + 1, 0, none⟩) 4 4, .slice (some ⟨b + 1 + 1 + 1 + 1 + 1 + 1 + 1 + 1 + 1 + 1 + 1, 0, none⟩) 4 4, .slice (some ⟨b + 1 + 1 + 1 + 1 + 1 + 1 + 1 + 1 + 1 + 1 + 1 + 1, 0, none⟩) 4 4, .slice (some ⟨b + 1 + 1 + 1 + 1 + 1 + 1 + 1 + 1 + 1 + 1 + 1 + 1 + 1, 0, none⟩) 4 4, .slice (some ⟨b + 1 + 1 + 1 + 1 + 1 + 1 + 1 + 1 + 1 + 1 + 1 + 1 + 1 + 1, 0, none⟩) 2 2] : List Value)[j]'h = .slice (some ⟨b + 1 + 1 + 1 + j, 0, none⟩) (formRow j).length (formRow j).length := by
  have hj : j < 12 := h
  match j, hj with
  | 0, _ => rfl
  | 1, _ => rfl
  | 2, _ => rfl
  | 3, _ => rfl
  | 4, _ => rfl
  | 5, _ => rfl
  | 6, _ => rfl
  | 7, _ => rfl
  | 8, _ => rfl
  | 9, _ => rfl
  | 10, _ => rfl
  | 11, _ => rfl
theorem wantPick (j : Nat) (h : j < ([.int .i64 0, .int .i64 601, .int .i64 601, .int .i64 0, .int .i64 0, .int .i64 0, .int .i64 601, .int .i64 0, .int .i64 601, .int .i64 601, .int .i64 602, .int .i64 602] : List Value).length) : ([.int .i64 0, .int .i64 601, .int .i64 601, .int .i64 0, .int .i64 0, .int .i64 0, .int .i64 601, .int .i64 0, .int .i64 601, .int .i64 601, .int .i64 602, .int .i64 602] : List Value)[j]'h = .int .i64 (formWant j) := by
  have hj : j < 12 := h
  match j, hj with
  | 0, _ => rfl
  | 1, _ => rfl
  | 2, _ => rfl
  | 3, _ => rfl
  | 4, _ => rfl
  | 5, _ => rfl
  | 6, _ => rfl
  | 7, _ => rfl
  | 8, _ => rfl
  | 9, _ => rfl
  | 10, _ => rfl
  | 11, _ => rfl
attribute [local go_sem] rowPick wantPick max2_int min2_int max_two min_two max_three min_three max_four min_four
set_option maxHeartbeats 8000000 in
set_option maxRecDepth 100000 in
theorem forms_at (k : Nat) (a0 : Int) (w : World) (hG : Err.ErrTy w) (hw : trammellaw6_awake.f k = some true) (j : Nat) (hj : j < 12) (hm : Int.tmod (IntKind.u64.wrap a0) 12 = (j : Int)) (r1 : List S45) (r2 : List S34) (r3 r4 : Int) (h1 : scope_Resolve.f k [opA] (formRow j) = some (r1, r2, r3, r4)) (hr4 : r4 = formWant j) (hlen : (formWant j = 0 ∧ 0 < r2.length) ∨ (formWant j = 601 ∧ r2.length = 0) ∨ (formWant j = 602 ∧ r2.length = 0)) (s1 : List S45) (s2 : List S34) (s3 : Int) (h2 : scope_Resolve.f k [opA, opA] formRow0 = some (s1, s2, s3, 602)) :
    Calls Tryd.prog 6 #[.int .i64 a0] w fun e w' => e = .returned (.bool true) ∧ Below w.heap.size w w' := by
  have HG := Aside0.mk hG
  have HW := Aside0.mk hw
  have HR1 := Aside0.mk h1
  have HR2 := Aside0.mk h2
  have HJ := Aside0.mk hj
  have hm2 : wrap64 (Int.tmod (IntKind.u64.wrap a0) 12) = (j : Int) := by rw [hm]; exact wrapJ j hj
  have hm3 : IntKind.i64.wrap (Int.tmod (IntKind.u64.wrap a0) 12) = (j : Int) := by rw [hm]; exact IntWalk.i64_in _ (by omega)
  have hj1 : (j : Int) < 12 := by omega
  have hj0 : ¬ (12 : Int) ≤ j := by omega
  have hj3 : ¬ (j : Int) < 0 := by omega
  have hj4 : (0 : Int) ≤ j := by omega
  clear hG hw h1 h2
  go_enter Tryd.func6, Tryd.ntmps6
  go_wp2_with fail
  refine (trammellaw6_awake.callsT k true w rfl HW.out HG.out).mono ?_
  rintro e w1 ⟨rfl, hb1⟩
  have HB1 := Aside0.mk hb1
  clear hb1
  go_wp2_with fail
  refine (scope_Resolve.calls k (some ⟨w1.heap.size + 1 + 1 + 1 + 1 + 1 + 1 + 1 + 1 + 1 + 1 + 1 + 1 + 1 + 1 + 1 + 1 + 1, 0, none⟩) 1 [opA] (some ⟨w1.heap.size + 1 + 1 + 1 + j, 0, none⟩) (formRow j).length (formRow j) r1 r2 r3 r4 _ ?h1 (Nat.le_refl _) ?h2 (Nat.le_refl _) HR1.out ?hg).mono ?_
  · exact opsC (new_at (by simp) _) rfl (by decide)
  · match j, HJ.out with
    | 0, _ => exact nodesC (blk_alloc (blk_alloc (blk_alloc (blk_alloc (blk_alloc (blk_alloc (blk_alloc (blk_alloc (blk_alloc (blk_alloc (blk_alloc (blk_alloc (blk_alloc (blk_alloc (new_at (by simp) _) _) _) _) _) _) _) _) _) _) _) _) _) _) _) rfl (by decide)
    | 1, _ => exact nodesC (blk_alloc (blk_alloc (blk_alloc (blk_alloc (blk_alloc (blk_alloc (blk_alloc (blk_alloc (blk_alloc (blk_alloc (blk_alloc (blk_alloc (blk_alloc (new_at (by simp) _) _) _) _) _) _) _) _) _) _) _) _) _) _) rfl (by decide)
    | 2, _ => exact nodesC (blk_alloc (blk_alloc (blk_alloc (blk_alloc (blk_alloc (blk_alloc (blk_alloc (blk_alloc (blk_alloc (blk_alloc (blk_alloc (blk_alloc (new_at (by simp) _) _) _) _) _) _) _) _) _) _) _) _) _) rfl (by decide)
    | 3, _ => exact nodesC (blk_alloc (blk_alloc (blk_alloc (blk_alloc (blk_alloc (blk_alloc (blk_alloc (blk_alloc (blk_alloc (blk_alloc (blk_alloc (new_at (by simp) _) _) _) _) _) _) _) _) _) _) _) _) rfl (by decide)
    | 4, _ => exact nodesC (blk_alloc (blk_alloc (blk_alloc (blk_alloc (blk_alloc (blk_alloc (blk_alloc (blk_alloc (blk_alloc (blk_alloc (new_at (by simp) _) _) _) _) _) _) _) _) _) _) _) rfl (by decide)
    | 5, _ => exact nodesC (blk_alloc (blk_alloc (blk_alloc (blk_alloc (blk_alloc (blk_alloc (blk_alloc (blk_alloc (blk_alloc (new_at (by simp) _) _) _) _) _) _) _) _) _) _) rfl (by decide)
    | 6, _ => exact nodesC (blk_alloc (blk_alloc (blk_alloc (blk_alloc (blk_alloc (blk_alloc (blk_alloc (blk_alloc (new_at (by simp) _) _) _) _) _) _) _) _) _) rfl (by decide)
    | 7, _ => exact nodesC (blk_alloc (blk_alloc (blk_alloc (blk_alloc (blk_alloc (blk_alloc (blk_alloc (new_at (by simp) _) _) _) _) _) _) _) _) rfl (by decide)
    | 8, _ => exact nodesC (blk_alloc (blk_alloc (blk_alloc (blk_alloc (blk_alloc (blk_alloc (new_at (by simp) _) _) _) _) _) _) _) rfl (by decide)
    | 9, _ => exact nodesC (blk_alloc (blk_alloc (blk_alloc (blk_alloc (blk_alloc (new_at (by simp) _) _) _) _) _) _) rfl (by decide)
    | 10, _ => exact nodesC (blk_alloc (blk_alloc (blk_alloc (blk_alloc (new_at (by simp) _) _) _) _) _) rfl (by decide)
    | 11, _ => exact nodesC (blk_alloc (blk_alloc (blk_alloc (new_at (by simp) _) _) _) _) rfl (by decide)
  · exact HG.out.below HG.out.lt (by repeat (first | exact HB1.out | apply below_alloc))
  rintro e w2 ⟨v0, v1, rfl, hv0, hv1, hb2⟩
  obtain ⟨A0, c0, rfl⟩ := Kd.R_slice hv0
  obtain ⟨A1, c1, rfl⟩ := Kd.R_slice hv1
  have BX := Aside0.mk (blk_below (blk_alloc (blk_alloc (blk_alloc (blk_alloc (blk_alloc (blk_alloc (blk_alloc (blk_alloc (blk_alloc (blk_alloc (blk_alloc (blk_alloc (blk_alloc (blk_alloc (new_at (n := w1.heap.size + 1 + 1 + 1) (by simp) _) _) _) _) _) _) _) _) _) _) _) _) _) _) _) hb2)
  have BO := Aside0.mk (blk_below (blk_alloc (blk_alloc (new_at (n := w1.heap.size + 1 + 1 + 1 + 1 + 1 + 1 + 1 + 1 + 1 + 1 + 1 + 1 + 1 + 1 + 1) (by simp) _) _) _) hb2)
  have BW := Aside0.mk (blk_below (blk_alloc (new_at (n := w1.heap.size + 1 + 1 + 1 + 1 + 1 + 1 + 1 + 1 + 1 + 1 + 1 + 1 + 1 + 1 + 1 + 1) (by simp) _) _) hb2)
  have HB2 := Aside0.mk (Below.trans (by repeat (first | exact HB1.out | apply below_alloc)) (hb2.mono (show w.heap.size ≤ _ by have := HB1.out.size; simp; omega)))
  have HZ := Aside0.mk (show w1.heap.size + 18 ≤ w2.heap.size by have := hb2.size; simp at this; omega)
  have o0 : w2.cell? ⟨w1.heap.size + 1 + 1 + 1 + 1 + 1 + 1 + 1 + 1 + 1 + 1 + 1 + 1 + 1 + 1 + 1, 0, none⟩ = some (.slice (some ⟨w1.heap.size + 1 + 1 + 1, 0, none⟩) 2 2) := blk_cell BO.out 0
  have z1 : w1.heap.size + 1 + 1 + 1 + 1 + 1 + 1 + 1 + 1 + 1 + 1 + 1 + 1 + 1 + 1 + 1 < w2.heap.size := blk_lt BO.out
  have z2 : w1.heap.size + 1 + 1 + 1 + 1 + 1 + 1 + 1 + 1 + 1 + 1 + 1 + 1 + 1 + 1 + 1 ≠ w2.heap.size := Nat.ne_of_lt z1
  have z3 : w1.heap.size + 1 + 1 + 1 + 1 + 1 + 1 + 1 + 1 + 1 + 1 + 1 + 1 + 1 + 1 + 1 < w2.heap.size + 1 := Nat.lt_succ_of_lt z1
  have z4 : w1.heap.size + 1 + 1 + 1 + 1 + 1 + 1 + 1 + 1 + 1 + 1 + 1 + 1 + 1 + 1 + 1 ≠ w2.heap.size + 1 := Nat.ne_of_lt z3
  have OR2 := Aside0.mk hv0
  have NR2 := Aside0.mk hv1
  clear hb2 hv0 hv1
  go_wp2_with fail
  refine (scope_Resolve.calls k (some ⟨w2.heap.size + 1, 0, none⟩) 2 [opA, opA] (some ⟨w1.heap.size + 1 + 1 + 1, 0, none⟩) 2 formRow0 s1 s2 s3 602 _ ?g1 (Nat.le_refl _) ?g2 (Nat.le_refl _) HR2.out ?gg).mono ?_
  · exact opsC (new_at (n := w2.heap.size + 1) (by simp) _) rfl (by decide)
  · exact nodesC (blk_alloc (blk_alloc BX.out _) _) rfl (by decide)
  · exact HG.out.below HG.out.lt (by repeat (first | exact HB2.out | apply below_alloc))
  rintro e w3 ⟨u0, u1, rfl, hu0, hu1, hb3⟩
  have Q3 := Aside0.mk (blk_below (blk_alloc (new_at (n := w2.heap.size) rfl (.cells #[.slice A0 r1.length c0, .slice A1 r2.length c1] 25)) _) hb3)
  have W3 := Aside0.mk (blk_below (blk_alloc (blk_alloc BW.out _) _) hb3)
  have HB3 := Aside0.mk (Below.trans (by repeat (first | exact HB2.out | apply below_alloc)) (hb3.mono (show w.heap.size ≤ _ by have := HB2.out.size; simp; omega)))
  have q0 : w3.cell? ⟨w2.heap.size, 0, none⟩ = some (.slice A0 r1.length c0) := blk_cell Q3.out 0
  have q1 : w3.cell? ⟨w2.heap.size, 1, none⟩ = some (.slice A1 r2.length c1) := blk_cell Q3.out 1
  have t1 : w3.cell? ⟨w1.heap.size + 1 + 1 + 1 + 1 + 1 + 1 + 1 + 1 + 1 + 1 + 1 + 1 + 1 + 1 + 1 + 1, j, none⟩ = some (.int .i64 (formWant j)) := by
    rw [blk_cell W3.out j]
    match j, HJ.out with
    | 0, _ => rfl
    | 1, _ => rfl
    | 2, _ => rfl
    | 3, _ => rfl
    | 4, _ => rfl
    | 5, _ => rfl
    | 6, _ => rfl
    | 7, _ => rfl
    | 8, _ => rfl
    | 9, _ => rfl
    | 10, _ => rfl
    | 11, _ => rfl
  obtain ⟨B0, d0, rfl⟩ := Kd.R_slice hu0
  obtain ⟨B1, d1, rfl⟩ := Kd.R_slice hu1
  have hr4' := hr4
  clear hb3 hu0 hu1 o0 z1 z2 z3 z4
  have hl := hlen
  subst hr4
  have hnz : ∃ z : Nat, r2.length = z := ⟨_, rfl⟩
  obtain ⟨z, hz⟩ := hnz
  rw [hz] at q1 hl
  clear hlen hr4' HR1 NR2 BX BO BW Q3 W3 OR2 hz
  generalize formWant j = v at *
  rcases hl with ⟨rfl, hl⟩ | ⟨rfl, rfl⟩ | ⟨rfl, rfl⟩
  · have hl2 : (0 : Int) < (z : Int) := by omega
    have hl3 : ¬ (z : Int) ≤ 0 := by omega
    have hl4 : z ≠ 0 := by omega
    have S0 : w3.cell? ⟨w2.heap.size, 1, none⟩ = some (.slice A1 z c1) ∧ w3.cell? ⟨w1.heap.size + 1 + 1 + 1 + 1 + 1 + 1 + 1 + 1 + 1 + 1 + 1 + 1 + 1 + 1 + 1 + 1, j, none⟩ = some (.int .i64 0) := ⟨q1, t1⟩
    go_wp2_with fail
    go_region_held3 (fun w' => w'.cell? ⟨w2.heap.size, 1, none⟩ = some (.slice A1 z c1) ∧ w'.cell? ⟨w1.heap.size + 1 + 1 + 1 + 1 + 1 + 1 + 1 + 1 + 1 + 1 + 1 + 1 + 1 + 1 + 1 + 1, j, none⟩ = some (.int .i64 0)) (first | go_keep | exact S0)
     ((first
      | (go_at_call 9; refine (trammellaw0_Num.calls 0 0 _ rfl).mono ?_; rintro e w5 ⟨rfl, ⟨nd5, rfl⟩⟩; have S5 := Aside0.mk (show (World.drewN _ nd5).cell? ⟨w2.heap.size, 1, none⟩ = some (.slice A1 z c1) ∧ (World.drewN _ nd5).cell? ⟨w1.heap.size + 1 + 1 + 1 + 1 + 1 + 1 + 1 + 1 + 1 + 1 + 1 + 1 + 1 + 1 + 1 + 1, j, none⟩ = some (.int .i64 0) from S0))
      | (go_at_call 9; refine (trammellaw0_Num.calls 602 602 _ rfl).mono ?_; rintro e w5 ⟨rfl, ⟨nd5, rfl⟩⟩; have S5 := Aside0.mk (show (World.drewN _ nd5).cell? ⟨w2.heap.size, 1, none⟩ = some (.slice A1 z c1) ∧ (World.drewN _ nd5).cell? ⟨w1.heap.size + 1 + 1 + 1 + 1 + 1 + 1 + 1 + 1 + 1 + 1 + 1 + 1 + 1 + 1 + 1 + 1, j, none⟩ = some (.int .i64 0) from S0))))
    all_goals go_wp2
    all_goals go_ret
    all_goals exact ⟨rfl, by repeat (first | exact HB3.out | apply pw_below_drewN | apply below_drew | apply below_drew1 | apply below_alloc)⟩
  · skip
    have S0 : w3.cell? ⟨w2.heap.size, 1, none⟩ = some (.slice A1 0 c1) ∧ w3.cell? ⟨w1.heap.size + 1 + 1 + 1 + 1 + 1 + 1 + 1 + 1 + 1 + 1 + 1 + 1 + 1 + 1 + 1 + 1, j, none⟩ = some (.int .i64 601) := ⟨q1, t1⟩
    go_wp2_with fail
    go_region_held3 (fun w' => w'.cell? ⟨w2.heap.size, 1, none⟩ = some (.slice A1 0 c1) ∧ w'.cell? ⟨w1.heap.size + 1 + 1 + 1 + 1 + 1 + 1 + 1 + 1 + 1 + 1 + 1 + 1 + 1 + 1 + 1 + 1, j, none⟩ = some (.int .i64 601)) (first | go_keep | exact S0)
     ((first
      | (go_at_call 9; refine (trammellaw0_Num.calls 601 601 _ rfl).mono ?_; rintro e w5 ⟨rfl, ⟨nd5, rfl⟩⟩; have S5 := Aside0.mk (show (World.drewN _ nd5).cell? ⟨w2.heap.size, 1, none⟩ = some (.slice A1 0 c1) ∧ (World.drewN _ nd5).cell? ⟨w1.heap.size + 1 + 1 + 1 + 1 + 1 + 1 + 1 + 1 + 1 + 1 + 1 + 1 + 1 + 1 + 1 + 1, j, none⟩ = some (.int .i64 601) from S0))
      | (go_at_call 9; refine (trammellaw0_Num.calls 602 602 _ rfl).mono ?_; rintro e w5 ⟨rfl, ⟨nd5, rfl⟩⟩; have S5 := Aside0.mk (show (World.drewN _ nd5).cell? ⟨w2.heap.size, 1, none⟩ = some (.slice A1 0 c1) ∧ (World.drewN _ nd5).cell? ⟨w1.heap.size + 1 + 1 + 1 + 1 + 1 + 1 + 1 + 1 + 1 + 1 + 1 + 1 + 1 + 1 + 1 + 1, j, none⟩ = some (.int .i64 601) from S0))))
    all_goals go_wp2
    all_goals go_ret
    all_goals exact ⟨rfl, by repeat (first | exact HB3.out | apply pw_below_drewN | apply below_drew | apply below_drew1 | apply below_alloc)⟩
  · skip
    have S0 : w3.cell? ⟨w2.heap.size, 1, none⟩ = some (.slice A1 0 c1) ∧ w3.cell? ⟨w1.heap.size + 1 + 1 + 1 + 1 + 1 + 1 + 1 + 1 + 1 + 1 + 1 + 1 + 1 + 1 + 1 + 1, j, none⟩ = some (.int .i64 602) := ⟨q1, t1⟩
    go_wp2_with fail
    go_region_held3 (fun w' => w'.cell? ⟨w2.heap.size, 1, none⟩ = some (.slice A1 0 c1) ∧ w'.cell? ⟨w1.heap.size + 1 + 1 + 1 + 1 + 1 + 1 + 1 + 1 + 1 + 1 + 1 + 1 + 1 + 1 + 1 + 1, j, none⟩ = some (.int .i64 602)) (first | go_keep | exact S0)
     ((first
      | (go_at_call 9; refine (trammellaw0_Num.calls 602 602 _ rfl).mono ?_; rintro e w5 ⟨rfl, ⟨nd5, rfl⟩⟩; have S5 := Aside0.mk (show (World.drewN _ nd5).cell? ⟨w2.heap.size, 1, none⟩ = some (.slice A1 0 c1) ∧ (World.drewN _ nd5).cell? ⟨w1.heap.size + 1 + 1 + 1 + 1 + 1 + 1 + 1 + 1 + 1 + 1 + 1 + 1 + 1 + 1 + 1 + 1, j, none⟩ = some (.int .i64 602) from S0))))
    all_goals go_wp2
    all_goals go_ret
    all_goals exact ⟨rfl, by repeat (first | exact HB3.out | apply pw_below_drewN | apply below_drew | apply below_drew1 | apply below_alloc)⟩
end Go.Proofs.YtfcjpkkglffnmaaDoor.H

set_option linter.unusedVariables false
namespace Go.Proofs.YtfcjpkkglffnmaaDoor.Bits
open Go.RowKit
theorem u64_wrap (x : Int) : IntKind.u64.wrap x = x % 18446744073709551616 := by
  simp [IntKind.wrap, IntKind.bits, IntKind.signed]
end Go.Proofs.YtfcjpkkglffnmaaDoor.Bits

set_option linter.unusedVariables false
set_option linter.unusedSimpArgs false
set_option maxHeartbeats 4000000
set_option maxRecDepth 100000
namespace Go.Proofs.YtfcjpkkglffnmaaDoor.H
open Go.RowKit Go.Proofs.YtfcjpkkglffnmaaDoorW.PrintWords Go.Proofs.YtfcjpkkglffnmaaDoorW.PrintLast Go.Proofs.YtfcjpkkglffnmaaDoorW.PrintMore
def okRow (j : Nat) : Option (List S45 × List S34 × Int × Int) → Bool
  | some r => decide (r.2.2.2 = formWant j) && ((decide (0 < r.2.1.length)) == decide (formWant j = 0))
  | none => false
theorem ok_rows : ∀ j < 12, okRow j (resQ 1300 [opA] (formRow j)) = true := by decide +kernel
theorem ok_two : (match resQ 1300 [opA, opA] formRow0 with | some r => decide (r.2.2.2 = 602) | none => false) = true := by decide +kernel
theorem forms_res (j : Nat) (hj : j < 12) : ∃ r1 r2 r3 r4, scope_Resolve.f 1300 [opA] (formRow j) = some (r1, r2, r3, r4) ∧ r4 = formWant j ∧ ((0 < r2.length) = (formWant j = 0)) := by
  have h := ok_rows j hj
  rw [res_Q 1300 (by decide)]
  cases hr : resQ 1300 [opA] (formRow j) with
  | none => rw [hr] at h; cases h
  | some r =>
    rw [hr] at h
    obtain ⟨r1, r2, r3, r4⟩ := r
    simp only [okRow, Bool.and_eq_true, decide_eq_true_eq, beq_iff_eq, decide_eq_decide] at h
    exact ⟨r1, r2, r3, r4, rfl, h.1, propext h.2⟩
theorem want3 : ∀ j < 12, formWant j = 0 ∨ formWant j = 601 ∨ formWant j = 602 := by decide
theorem forms_two : ∃ s1 s2 s3, scope_Resolve.f 1300 [opA, opA] formRow0 = some (s1, s2, s3, 602) := by
  have h := ok_two
  rw [res_Q 1300 (by decide)]
  cases hr : resQ 1300 [opA, opA] formRow0 with
  | none => rw [hr] at h; cases h
  | some r =>
    rw [hr] at h
    obtain ⟨s1, s2, s3, s4⟩ := r
    obtain rfl : s4 = 602 := by simpa using h
    exact ⟨s1, s2, s3, rfl⟩
theorem ScopeForms_calls (a0 : Int) (w : World) (hG : Err.ErrTy w) : Calls Tryd.prog 6 #[.int .i64 a0] w fun e w' => e = .returned (.bool true) ∧ Below w.heap.size w w' := by
  have hq : Int.tmod (IntKind.u64.wrap a0) 12 = (a0 % 18446744073709551616) % 12 := by
    rw [Bits.u64_wrap, Int.tmod_eq_emod_of_nonneg (Int.emod_nonneg _ (by decide))]
  have q0 := Int.emod_nonneg (a0 % 18446744073709551616) (b := 12) (by decide)
  have q1 := Int.emod_lt_of_pos (a0 % 18446744073709551616) (b := 12) (by decide)
  obtain ⟨j, hj⟩ := Int.eq_ofNat_of_zero_le q0
  have hj2 : j < 12 := by omega
  obtain ⟨r1, r2, r3, r4, h1, h4, h5⟩ := forms_res j hj2
  obtain ⟨s1, s2, s3, h2⟩ := forms_two
  have hw : formWant j = 0 ∨ formWant j = 601 ∨ formWant j = 602 := want3 j hj2
  have hlen : (formWant j = 0 ∧ 0 < r2.length) ∨ (formWant j = 601 ∧ r2.length = 0) ∨ (formWant j = 602 ∧ r2.length = 0) := by
    rcases hw with h | h | h
    · exact .inl ⟨h, h5 ▸ h⟩
    · exact .inr (.inl ⟨h, Nat.eq_zero_of_not_pos (fun hp => by have : formWant j = 0 := h5 ▸ hp; omega)⟩)
    · exact .inr (.inr ⟨h, Nat.eq_zero_of_not_pos (fun hp => by have : formWant j = 0 := h5 ▸ hp; omega)⟩)
  exact forms_at 1300 a0 w hG trammellaw6_awake.is j hj2 (hq.trans hj) r1 r2 r3 r4 h1 h4 hlen s1 s2 s3 h2
end Go.Proofs.YtfcjpkkglffnmaaDoor.H
