/- Several texts in one: contracts of functions of the program, and what they lean on. In part written by a program of this session over the kit's print, in part by hand. -/
import Derived.Test.YtnogfhhfklkbiaaDoorT0
import Derived.Test.YtnogfhhfklkbiaaDoorT2
import Derived.Test.YtnogfhhfklkbiaaDoorT1
namespace Go.Proofs.YtnogfhhfklkbiaaDoor.H
open Go.RowKit Go.Proofs.YtnogfhhfklkbiaaDoorW.PrintWords Go.Proofs.YtnogfhhfklkbiaaDoorW.PrintLast Go.Proofs.YtnogfhhfklkbiaaDoorW.PrintMore
attribute [local go_sem] max2_int min2_int max_two min_two max_three min_three max_four min_four   -- for this text's walks alone
set_option linter.unusedVariables false
set_option linter.unusedSimpArgs false

/-! ### tree_Part: function 16 -/
-- rounds -- making
/-- A node of which the first j children stand so many places on. -/
def moveN (b : Int) (j : Nat) (x : S45) : S45 := { x with f1 := if 0 < j then wrap64 (x.f1 - b) else x.f1, f2 := if 1 < j then wrap64 (x.f2 - b) else x.f2, f3 := if 2 < j then wrap64 (x.f3 - b) else x.f3 }
def movedKids (b : Int) (x : S45) : S45 := moveN b (kidsN x.f0) x
theorem moveN_zero (b : Int) (x : S45) : moveN b 0 x = x := rfl
def cellList (x : S45) : List Value := [.int .i64 x.f0, .int .i64 x.f1, .int .i64 x.f2, .int .i64 x.f3, .int .i64 x.f4, .string x.f5, .string x.f6, .string x.f7, .string x.f8, .int .i64 x.f9]
/-- The next child's field as it stands, and the node when it is moved. -/
theorem move_step (b : Int) (j : Nat) (x : S45) (h : j < 3) : ∃ c, (cellList (moveN b j x))[1 + j]? = some (.int .i64 c) ∧ (cellList (moveN b j x)).take (1 + j) ++ [.int .i64 (wrap64 (c - b))] ++ (cellList (moveN b j x)).drop (1 + j + 1) = cellList (moveN b (j + 1) x) := by
  match j, h with
  | 0, _ => exact ⟨x.f1, rfl, rfl⟩
  | 1, _ => exact ⟨x.f2, rfl, rfl⟩
  | 2, _ => exact ⟨x.f3, rfl, rfl⟩
def tree_Part.f (k : Nat) (l0 : List S45) (a1 : Int) : Option ((List S45) × Int) :=
  (tree_there.f k l0 a1).bind fun t => if t = true then (tree_Begin.f k l0 a1).bind fun b => if 0 ≤ b ∧ b ≤ a1 ∧ a1 < l0.length ∧ l0.length < 1256584717458 then some (((l0.drop b.toNat).take (a1 + 1 - b).toNat).map (movedKids b), 0) else none else some ([], 300)
theorem tree_Part.mono : ∀ a0 a1 k, LeO (tree_Part.f k a0 a1) (tree_Part.f (k + 1) a0 a1) := by
  intro a0 a1 k
  unfold tree_Part.f
  exact LeO.bind (tree_there.mono _ _ k) fun t => LeO.ite (LeO.bind (tree_Begin.mono _ _ k) fun b => LeO.refl _) (LeO.refl _)
theorem part_next (b : Int) (xs : List S45) (i : Nat) (x : S45) (h : xs[i]? = some x) : ((xs.take i).map (movedKids b) ++ xs.drop i).set i (movedKids b x) = (xs.take (i + 1)).map (movedKids b) ++ xs.drop (i + 1) := by
  obtain ⟨hi, rfl⟩ := List.getElem?_eq_some_iff.1 h
  have hl : ((xs.take i).map (movedKids b)).length = i := by simp; omega
  rw [List.set_append_right _ _ (by omega), hl, Nat.sub_self, List.drop_eq_getElem_cons hi, List.set_cons_zero, List.take_succ_eq_append_getElem hi, List.map_append, List.append_assoc]
  rfl
theorem part_at (b : Int) (xs : List S45) (i : Nat) (x : S45) (h : xs[i]? = some x) : ((xs.take i).map (movedKids b) ++ xs.drop i).getD i z45 = x := by
  obtain ⟨hi, rfl⟩ := List.getElem?_eq_some_iff.1 h
  have hl : ((xs.take i).map (movedKids b)).length = i := by simp; omega
  rw [List.getD_eq_getElem?_getD, List.getElem?_append_right (by omega), hl, Nat.sub_self, List.getElem?_drop]
  simp [hi]
set_option maxRecDepth 100000 in
set_option maxHeartbeats 8000000 in
theorem tree_Part.calls (k : Nat) (A0 : Option Addr) (c0 : Nat) (l0 : List (S45)) (a1 : Int) (r1 : List (S45)) (r2 : Int) (w : World) (hr0 : Kd.C k45 w A0 l0.length l0) (hc0 : l0.length ≤ c0) (h : tree_Part.f k l0 a1 = some (r1, r2)) :
    Calls Tryd.prog 16 #[.slice A0 l0.length c0, .int .i64 a1] w fun e w' => ∃ v0_ : Value, e = .returned (.tuple #[v0_, .int .i64 r2]) ∧ Kd.R k45 45 w' w.heap.size (fun _ => True) v0_ r1 ∧ Below w.heap.size w w' := by
  unfold tree_Part.f at h
  replace h := Option.bind_eq_some_iff.mp h
  obtain ⟨t, ht, h⟩ := h
  have HC := Aside0.mk hr0
  have HL := Aside0.mk hc0
  have HT := Aside0.mk ht
  clear hr0 hc0 ht
  cases t with
  | false =>
    simp only [Bool.false_eq_true, if_false] at h
    obtain ⟨rfl, rfl⟩ := Prod.mk.inj (Option.some.inj h)
    clear h
    go_enter Tryd.func16, Tryd.ntmps16
    go_wp2_with (go_at_call 38; (with_reducible refine (tree_there.calls k A0 c0 l0 a1 false _ HC.out HL.out HT.out).mono ?_); rintro e w3 ⟨rfl, hb3⟩; have HB3 := Aside0.mk hb3; clear hb3)
    go_ret2
    exact ⟨_, rfl, Kd.R_nil _ _ _ _ _, HB3.out⟩
  | true =>
    simp only [if_true] at h
    replace h := Option.bind_eq_some_iff.mp h
    obtain ⟨b, hb, h⟩ := h
    have HBG := Aside0.mk hb
    clear hb
    by_cases hc : 0 ≤ b ∧ b ≤ a1 ∧ a1 < l0.length ∧ l0.length < 1256584717458
    · rw [if_pos hc] at h
      obtain ⟨rfl, rfl⟩ := Prod.mk.inj (Option.some.inj h)
      clear h
      obtain ⟨c1, c2, c3, c4⟩ := hc
      obtain ⟨bn, rfl⟩ := Int.eq_ofNat_of_zero_le c1
      obtain ⟨an, rfl⟩ := Int.eq_ofNat_of_zero_le (Int.le_trans c1 c2)
      rw [Int.toNat_natCast, show ((an : Int) + 1 - (bn : Int)).toNat = an + 1 - bn from by omega]
      obtain ⟨ad, rfl, _⟩ := HC.out.2.2 (by omega)
      have hlc := HL.out
      go_enter Tryd.func16, Tryd.ntmps16
      go_wp2_with (first | (go_at_call 38; (with_reducible refine (tree_there.calls k (some ad) c0 l0 an true _ HC.out HL.out HT.out).mono ?_); rintro e w3 ⟨rfl, hb3⟩; have HB3 := Aside0.mk hb3; clear hb3) | (go_at_call 42; (with_reducible refine (tree_Begin.calls k (some ad) c0 l0 an bn _ (Kd.C_below HC.out HB3.out) HL.out HBG.out).mono ?_); rintro e w4 ⟨rfl, hb4⟩; have HB4 := Aside0.mk (HB3.out.trans (hb4.mono HB3.out.size)); clear hb4))
      have hxs : Kd.C k45 w4 (some (ad.add (bn * 10))) ((l0.drop bn).take (an + 1 - bn)).length ((l0.drop bn).take (an + 1 - bn)) := by
        have h1 := Kd.C_drop (m := bn) (c := c0) (Kd.C_below HC.out HB4.out) (by omega) hlc
        rw [if_neg (by omega)] at h1
        exact Kd.C_take h1 (by rw [List.length_drop]; omega)
      have hxl : ((l0.drop bn).take (an + 1 - bn)).length = an + 1 - bn := by rw [List.length_take, List.length_drop]; omega
      obtain ⟨xs, hxsE⟩ : ∃ xs, xs = (l0.drop bn).take (an + 1 - bn) := ⟨_, rfl⟩
      rw [← hxsE] at hxs hxl
      have HXE := Aside0.mk hxsE
      clear hxsE
      have hm0 : an + 1 - bn < 1256584717458 ∧ 0 < an + 1 - bn := by omega
      generalize hmE : an + 1 - bn = m at *
      have HME := Aside0.mk hmE
      clear hmE
      have hcl := clone_calls (ad.add (bn * 10)) (c0 - bn) xs w4 hxs (by omega)
      rw [hxl] at hcl
      have HXL := Aside0.mk hxl
      have hm1 : 0 < xs.length := by omega
      refine hcl.mono ?_
      rintro e w5 ⟨v5, rfl, ho5, hb5⟩
      have HB5 := Aside0.mk (HB4.out.trans (hb5.mono HB4.out.size))
      obtain ⟨g, cap, rfl, hg0, hg1, _⟩ := Kd.R_form ho5 hm1
      rw [hxl]
      have HO5 := Aside0.mk (Kd.R_lower ho5 HB4.out.size)
      rw [hxl] at HO5
      have hgw : w.heap.size ≤ g := by have := HB4.out.size; omega
      clear hcl hxs ho5 hb5 hxl hg0 hg1
      go_wp2_with fail
      go_loopw [26] (fun v26 wr => ∃ (i : Nat), v26 = .int .i64 i ∧ i ≤ m ∧ Aside0 (Kd.R k45 45 wr w.heap.size (fun _ => True) (.slice (some ⟨g, 0, none⟩) m cap) ((xs.take i).map (movedKids bn) ++ xs.drop i)) ∧ Aside0 (Below w.heap.size w wr)) (fun v26 _ => m - (intOf v26).toNat)
      case atStart => exact ⟨0, rfl, Nat.zero_le _, HO5, HB5⟩
      case round =>
        obtain ⟨i, rfl, hi, HO, HB⟩ := hrel
        clear HO5 HB5
        by_cases hlt : i < m
        · have hix : i < xs.length := by have := HXL.out; omega
          obtain ⟨x, hx⟩ : ∃ x, xs[i]? = some x := ⟨_, List.getElem?_eq_getElem hix⟩
          have HX := Aside0.mk hx
          obtain ⟨c, hcl, hM, hcc, hff⟩ := Kd.R_elem HO.out z45 i (by omega) (by omega)
          rw [Int.toNat_natCast, part_at _ _ _ _ hx] at hM
          rw [Int.toNat_natCast] at hcc
          obtain rfl := k45_openM hM
          have d0 : wr.cell? ⟨g, i * 10, none⟩ = some (.int .i64 x.f0) := hcc 0 _ rfl
          clear hcl hM hcc hff hx
          go_wp2_with fail
          refine (kids_calls g (i * 10) x.f0 wr d0).mono ?_
          rintro e w6 ⟨rfl, hb6, hp6⟩
          have HB6 := Aside0.mk (HB.out.trans (hb6.mono HB.out.size))
          have hgl : g < wr.heap.size := World.block_lt_of_cell? wr ⟨g, i * 10, none⟩ d0
          have HO6 := Aside0.mk (show Kd.R k45 45 w6 w.heap.size (fun _ => True) (.slice (some ⟨g, 0, none⟩) m cap) (((xs.take i).map (movedKids bn) ++ xs.drop i).set i (moveN bn 0 x)) by
            have h1 := Kd.R_below HO.out hb6
            rw [moveN_zero]
            have e : ((xs.take i).map (movedKids bn) ++ xs.drop i).set i x = (xs.take i).map (movedKids bn) ++ xs.drop i := by
              have hl : ((xs.take i).map (movedKids bn)).length = i := by simp; omega
              rw [List.set_append_right _ _ (by omega), hl, Nat.sub_self]
              obtain ⟨h2, rfl⟩ := List.getElem?_eq_some_iff.1 HX.out
              rw [List.drop_eq_getElem_cons h2, List.set_cons_zero]
            rw [e]
            exact h1)
          have HP6 := Aside0.mk hp6
          clear hb6 hp6 HO HB d0
          generalize hg1 : wr.heap.size = g1 at *
          have hn3 := kidsN_le x.f0
          generalize hN : kidsN x.f0 = n3 at *
          have HN := Aside0.mk hN
          have HI := Aside0.mk (show ((xs.take i).map (movedKids bn) ++ xs.drop i).length = m by rw [List.length_append, List.length_map, List.length_take, List.length_drop, HXL.out]; omega)
          generalize hY : (xs.take i).map (movedKids bn) ++ xs.drop i = ys at *
          have HY := Aside0.mk hY
          clear hg1 hN hY
          go_wp2_with fail
          go_loopw [34] (fun v34 wr => ∃ (j : Nat), v34 = .int .i64 j ∧ j ≤ n3 ∧ Aside0 (Kd.R k45 45 wr w.heap.size (fun _ => True) (.slice (some ⟨g, 0, none⟩) m cap) (ys.set i (moveN bn j x))) ∧ Aside0 (0 < n3 → wr.heap[g1]? = some (.cells (fieldPtrs g (i * 10 + 1) n3).toArray 74 (0, 0))) ∧ Aside0 (Below w.heap.size w wr)) (fun v34 _ => n3 - (intOf v34).toNat)
          case atStart => exact ⟨0, rfl, Nat.zero_le _, HO6, HP6, HB6⟩
          case round =>
            obtain ⟨j, rfl, hj, HOJ, HPJ, HBJ⟩ := hrel
            clear HO6 HP6 HB6
            by_cases hlj : j < n3
            · have hpA : ptrOf g1 n3 = some ⟨g1, 0, none⟩ := ptrOf_some (by omega)
              rw [hpA]
              obtain ⟨c, hstep, hlist⟩ := move_step bn j x (by omega)
              obtain ⟨cs, hcl, hM, hcc, hff⟩ := Kd.R_elem HOJ.out z45 i (by omega) (by omega)
              have hgetD : (ys.set i (moveN bn j x)).getD i z45 = moveN bn j x := by
                rw [List.getD_eq_getElem?_getD, List.getElem?_set_self (by rw [HI.out]; exact hlt)]
                rfl
              rw [Int.toNat_natCast, hgetD] at hM
              rw [Int.toNat_natCast] at hcc hff
              obtain rfl := k45_openM hM
              have d1 : wr.cell? ⟨g, i * 10 + 1 + j, none⟩ = some (.int .i64 c) := by
                rw [Nat.add_assoc]
                exact hcc (1 + j) _ hstep
              have f1 : wr.frozen? ⟨g, i * 10 + 1 + j, none⟩ = false := by
                rw [Nat.add_assoc]
                exact hff (1 + j)
              have c2 : wr.cell? ⟨g1, j, none⟩ = some (.pointer (some ⟨g, i * 10 + 1 + j, none⟩)) := by
                rw [blk_cell (HPJ.out (by omega)) j, List.getElem?_toArray]
                exact fieldPtrs_get _ _ _ _ hlj
              have hne : g ≠ g1 := by omega
              have HS := Aside0.mk (Kd.R_seg HOJ.out (i := (i : Int)) (by omega) (by omega) (c := cellList (moveN bn j x)) (seg := [.int .i64 (wrap64 (c - bn))]) (j := 1 + j) (x' := moveN bn (j + 1) x) (okp := fun _ => False) rfl
                (by rw [Int.toNat_natCast]; exact hcc) (by show 1 + j + 1 ≤ 10; omega) (by rw [show ([Value.int .i64 (wrap64 (c - bn))]).length = 1 from rfl, hlist]; exact k45_mkM _ _ _ _) (fun _ h => h.elim))
              clear hcl hM hcc hff hgetD hstep hlist HOJ
              go_wp2
              go_roundw
              case rel =>
                refine ⟨j + 1, by go_num, by omega, ⟨?_⟩, ⟨fun _ => ?_⟩, ⟨HBJ.out.setCell hgw _⟩⟩
                · have h1 := HS.out.1
                  rw [Int.toNat_natCast, show i * (k45).sz + (1 + j) = i * 10 + 1 + j from by show i * 10 + (1 + j) = _; omega, List.set_set] at h1
                  exact h1
                · exact blk_far (HPJ.out (by omega)) (by show g1 ≠ g; omega) _
              case measure => simp [intOf]; omega
            · have hjn : j = n3 := by omega
              subst hjn
              go_wp2
              go_roundw
              case rel =>
                refine ⟨i + 1, by go_num, by omega, ⟨?_⟩, HBJ⟩
                have h1 := HOJ.out
                rw [← HN.out, ← HY.out, show moveN bn (kidsN x.f0) x = movedKids bn x from rfl, part_next _ _ _ _ HX.out] at h1
                exact h1
              case measure => simp [intOf]; omega
        · have him : i = m := by omega
          subst him
          have ho := HO.out
          rw [List.take_of_length_le (by rw [HXL.out]; exact Nat.le_refl _), List.drop_eq_nil_of_le (by rw [HXL.out]; exact Nat.le_refl _), List.append_nil] at ho
          have HO2 := Aside0.mk ho
          clear ho HO
          go_wp2
          go_ret2
          exact ⟨.slice (some ⟨g, 0, none⟩) i cap, rfl, (by first | (rw [HME.out, ← HXE.out]; exact HO2.out) | (rw [← HXE.out]; exact HO2.out)), HB.out⟩
    · rw [if_neg hc] at h
      cases h


end Go.Proofs.YtnogfhhfklkbiaaDoor.H

namespace Go.Proofs.YtnogfhhfklkbiaaDoor.H
open Go.RowKit Go.Proofs.YtnogfhhfklkbiaaDoorW.PrintWords Go.Proofs.YtnogfhhfklkbiaaDoorW.PrintLast Go.Proofs.YtnogfhhfklkbiaaDoorW.PrintMore
attribute [local go_sem] max2_int min2_int max_two min_two max_three min_three max_four min_four   -- for this text's walks alone
set_option linter.unusedVariables false
set_option linter.unusedSimpArgs false

/-! ### tree_depth: function 39 -/
-- rounds -- making
/-- The deepest of the children. -/
def goD (g : Int → Option Int) : List Int → Int → Option Int
  | [], d => some d
  | c :: cs, d => (g c).bind fun r => goD g cs (mx d r)
def tree_depth.f : Nat → List S45 → Int → Option Int
  | 0, _, _ => none
  | k + 1, l, a => if 0 ≤ a then (if a < (l.length : Int) then (goD (tree_depth.f k l) (kidsOf (rd_T45 l a)) 0).bind fun d => some (wrap64 (d + 1)) else none) else none
theorem goD_mono {g g' : Int → Option Int} (h : ∀ x, LeO (g x) (g' x)) : ∀ cs a, LeO (goD g cs a) (goD g' cs a)
  | [], a => LeO.refl _
  | c :: cs, a => by
    unfold goD
    exact LeO.bind (h _) fun r => goD_mono h cs _
theorem tree_depth.mono : ∀ a0 a1 k, LeO (tree_depth.f k a0 a1) (tree_depth.f (k + 1) a0 a1) := by
  intro l a k
  induction k generalizing a with
  | zero => exact fun r h => by simp [tree_depth.f] at h
  | succ k ih =>
    rw [tree_depth.f, tree_depth.f]
    exact LeO.ite (LeO.ite (LeO.bind (goD_mono (fun x => ih x) _ _) fun _ => LeO.refl _) (LeO.none _)) (LeO.none _)
set_option maxRecDepth 100000 in
set_option maxHeartbeats 8000000 in
theorem tree_depth.calls (k : Nat) : ∀ (A0 : Option Addr) (c0 : Nat) (l0 : List (S45)) (a1 : Int) (r : Int) (w : World) (hr0 : Kd.C k45 w A0 l0.length l0) (hc0 : l0.length ≤ c0) (h : tree_depth.f k l0 a1 = some r),
    Calls Tryd.prog 39 #[.slice A0 l0.length c0, .int .i64 a1] w fun e w' => e = .returned (.int .i64 r) ∧ Below w.heap.size w w' := by
  induction k with
  | zero => intro A0 c0 l0 a1 r w hr0 hc0 h; exact absurd h (by simp [tree_depth.f])
  | succ k ih =>
    intro A0 c0 l0 a1 r w hr0 hc0 h
    rw [tree_depth.f] at h
    by_cases h0 : 0 ≤ a1
    · rw [if_pos h0] at h
      by_cases h1 : a1 < (l0.length : Int)
      · rw [if_pos h1] at h
        replace h := Option.bind_eq_some_iff.mp h
        obtain ⟨d0, h, hd⟩ := h
        obtain rfl := Option.some.inj hd
        clear hd
        obtain ⟨ad, e157, hx0, hx1, hx2, hx3, hx4, hx5, hx6, hx7, hx8, hx9⟩ := at_T45 hr0 a1 h0 h1
        cases e157
        have H := Aside0.mk h
        have HC := Aside0.mk hr0
        have HL := Aside0.mk hc0
        clear h hr0 hc0
        generalize hX : rd_T45 l0 a1 = x at *
        have HX := Aside0.mk hX
        clear hX
        go_enter Tryd.func39, Tryd.ntmps39
        go_wp2_with fail
        refine (kids_calls w.heap.size 0 x.f0 _ (by simp)).mono ?_
        rintro e w1 ⟨rfl, hb1, hp1⟩
        have hz : (w.alloc (.cells #[.int .i64 x.f0, .int .i64 x.f1, .int .i64 x.f2, .int .i64 x.f3, .int .i64 x.f4, .string x.f5, .string x.f6, .string x.f7, .string x.f8, .int .i64 x.f9] 45)).heap.size = w.heap.size + 1 := by simp
        have hB1 : Below w.heap.size w w1 := (((Below.refl _ _).alloc (Nat.le_refl _) _)).trans (hb1.mono (by omega))
        have hnode : w1.heap[w.heap.size]? = some (.cells #[.int .i64 x.f0, .int .i64 x.f1, .int .i64 x.f2, .int .i64 x.f3, .int .i64 x.f4, .string x.f5, .string x.f6, .string x.f7, .string x.f8, .int .i64 x.f9] 45 (0, 0)) :=
          (hb1.block w.heap.size (by omega)).trans (heap_alloc_new w _)
        rw [hz] at hp1 ⊢
        have hs1 : w.heap.size + 1 ≤ w1.heap.size := by have := hb1.size; omega
        clear hb1 hz
        generalize hn : kidsN x.f0 = n at *
        have hl := fieldPtrs_len w.heap.size (0 + 1) n
        have HN := Aside0.mk hn
        have HB1 := Aside0.mk hB1
        have HNODE := Aside0.mk hnode
        have HP1 := Aside0.mk hp1
        have HL1 := Aside0.mk hl
        have hn3 : n ≤ 3 := by rw [← hn]; exact kidsN_le _
        clear hn hB1 hnode hp1 hl
        go_wp2_with fail
        go_loopw [6, 15] (fun v6 v15 wr => ∃ (i : Nat) (d : Int), v6 = .int .i64 d ∧ v15 = .int .i64 i ∧ i ≤ n ∧ Aside0 (goD (tree_depth.f k l0) ((kidsOf x).drop i) d = some d0) ∧ Below w1.heap.size w1 wr) (fun _ v15 _ => n - (intOf v15).toNat)
        case atStart => exact ⟨0, 0, rfl, rfl, Nat.zero_le _, H, Below.refl _ _⟩
        case round =>
          obtain ⟨i, d, rfl, rfl, hi, HG, hbr⟩ := hrel
          have HBR := Aside0.mk hbr
          clear hbr H
          by_cases hlt : i < n
          · have hpA : ptrOf (w.heap.size + 1) n = some ⟨w.heap.size + 1, 0, none⟩ := ptrOf_some (by omega)
            rw [hpA]
            have hlen : (kidsOf x).length = n := (kidsOf_len x).trans HN.out
            have hget : ∃ c, (kidsOf x)[i]? = some c := ⟨_, List.getElem?_eq_getElem (by omega)⟩
            obtain ⟨c, hc⟩ := hget
            have hdrop : (kidsOf x).drop i = c :: (kidsOf x).drop (i + 1) := (hr_drop hc).symm
            have c1 : wr.cell? ⟨w.heap.size, 1 + i, none⟩ = some (.int .i64 c) := (HBR.out.cell (p := ⟨w.heap.size, 1 + i, none⟩) (by show w.heap.size < _; omega)).trans (node_cells x HNODE.out i c hc)
            have c2 : wr.cell? ⟨w.heap.size + 1, i, none⟩ = some (.pointer (some ⟨w.heap.size, 1 + i, none⟩)) := by
              have hh := blk_lt (HP1.out (by omega))
              rw [HBR.out.cell (p := ⟨w.heap.size + 1, i, none⟩) (by show w.heap.size + 1 < _; omega), blk_cell (HP1.out (by omega)) i]
              rw [List.getElem?_toArray]
              exact fieldPtrs_get _ _ _ _ hlt
            have HG' := HG.out
            rw [hdrop, goD] at HG'
            clear hdrop hlen HG hc
            have hcr : Aside0 (Kd.C k45 wr (some ad) l0.length l0) := ⟨Kd.C_below HC.out (HB1.out.trans (HBR.out.mono (by omega)))⟩
            replace HG' := Option.bind_eq_some_iff.mp HG'
            obtain ⟨r1, hr1, HG'⟩ := HG'
            have HR1 := Aside0.mk hr1
            have HG2 := Aside0.mk HG'
            clear hr1 HG'
            go_wp2_with (go_at_call 39; (with_reducible refine (ih (some ad) c0 l0 c r1 _ hcr.out HL.out HR1.out).mono ?_); rintro e w3 ⟨rfl, hb3⟩; have HB3 := Aside0.mk hb3; clear hb3)
            go_roundw
            case rel => exact ⟨i + 1, mx d r1, by first | rfl | (simp [mx]; done), by go_num, by omega, HG2, HBR.out.trans (HB3.out.mono (HBR.out.size))⟩
            case measure => simp [intOf]; omega
          · have hin : i = n := by omega
            have HG' := HG.out
            rw [List.drop_eq_nil_of_le (by rw [kidsOf_len, HN.out]; omega), goD] at HG'
            obtain rfl := Option.some.inj HG'
            clear HG' HG hin
            go_wp2
            go_ret
            exact ⟨rfl, HB1.out.trans (HBR.out.mono (by omega))⟩
      · rw [if_neg h1] at h; cases h
    · rw [if_neg h0] at h; cases h


end Go.Proofs.YtnogfhhfklkbiaaDoor.H

namespace Go.Proofs.YtnogfhhfklkbiaaDoor.H
open Go.RowKit Go.Proofs.YtnogfhhfklkbiaaDoorW.PrintWords Go.Proofs.YtnogfhhfklkbiaaDoorW.PrintLast Go.Proofs.YtnogfhhfklkbiaaDoorW.PrintMore
attribute [local go_sem] max2_int min2_int max_two min_two max_three min_three max_four min_four   -- for this text's walks alone
set_option linter.unusedVariables false
set_option linter.unusedSimpArgs false

/-! ### tree_Depth: function 14 -/
def tree_Depth.f (k : Nat) (l0 : List (S45)) (a1 : Int) : Option (Int × Int) := (tree_there.f k l0 a1).bind fun t320 => (if t320 = true then ((tree_depth.f k l0 a1).bind fun t321 => (some (t321, 0))) else (some (0, 300)))
theorem tree_Depth.mono : ∀ a0 a1 k, LeO (tree_Depth.f k a0 a1) (tree_Depth.f (k + 1) a0 a1) := by
  intro a0 a1 k
  unfold tree_Depth.f
  repeat' first
      | (with_reducible exact tree_depth.mono _ _ _)
      | (with_reducible exact tree_there.mono _ _ _)
      | (with_reducible exact LeO.refl _)
      | (with_reducible exact LeO.none _)
      | (with_reducible refine LeO.ite ?_ ?_)
      | (with_reducible refine LeO.bind ?_ (fun _ => ?_))
      | exact tree_depth.mono _ _ _
      | exact tree_there.mono _ _ _
      | exact LeO.none _
      | refine LeO.ite ?_ ?_
      | refine LeO.bind ?_ (fun _ => ?_)
set_option maxHeartbeats 8000000 in
set_option maxRecDepth 100000 in
theorem tree_Depth.calls (k : Nat) (A0 : Option Addr) (c0 : Nat) (l0 : List (S45)) (a1 : Int) (r1 : Int) (r2 : Int) (w : World) (hr0 : Kd.C k45 w A0 l0.length l0) (hc0 : l0.length ≤ c0) (h : tree_Depth.f k l0 a1 = some (r1, r2)) :
    Calls Tryd.prog 14 #[.slice A0 l0.length c0, .int .i64 a1] w fun e w' => e = .returned (.tuple #[.int .i64 r1, .int .i64 r2]) ∧ Below w.heap.size w w' := by
  have HR0 := Aside0.mk hr0
  have HC0 := Aside0.mk hc0
  clear hr0 hc0
  have HB := Aside0.mk (Below.refl w.heap.size w)
  have H : ((tree_there.f k l0 a1).bind fun t320 => (if t320 = true then ((tree_depth.f k l0 a1).bind fun t321 => (some (t321, 0))) else (some (0, 300)))) = some (r1, r2) := h
  clear h
  replace H := Option.bind_eq_some_iff.mp H
  obtain ⟨t320, A30, H⟩ := H
  replace H : (if t320 = true then ((tree_depth.f k l0 a1).bind fun t321 => (some (t321, 0))) else (some (0, 300))) = some (r1, r2) := H
  have A3 := Aside0.mk A30
  clear A30
  by_cases c4 : t320 = true
  · subst c4
    have H1 : ((tree_depth.f k l0 a1).bind fun t321 => (some (t321, 0))) = some (r1, r2) := by rw [if_pos rfl] at H; exact H
    clear H
    have H := H1
    clear H1
    replace H := Option.bind_eq_some_iff.mp H
    obtain ⟨t321, A50, H⟩ := H
    replace H : (some (t321, 0)) = some (r1, r2) := H
    have A5 := Aside0.mk A50
    clear A50
    simp only [Option.some.injEq, Prod.mk.injEq] at H
    obtain ⟨rfl, rfl⟩ := H
    go_enter Tryd.func14, Tryd.ntmps14
    go_wp2_with (first | ((with_reducible refine gate_callee (f := 38) rfl ?_); refine goesL_ (some 8) rfl rfl Tryd.func38 (by kernel_rfl) rfl #[.slice A0 l0.length c0, .int .i64 a1] rfl (by (try simp only [List.map_toArray, List.map_cons, List.map_nil]); first | done | rfl | (simp only [List.length_drop, List.length_take]; rfl)) ?_; (with_reducible refine (tree_there.calls k _ _ l0 a1 true _ ?side1 ?side2 A3.out).mono ?_); (case side1 => repeat (first | exact HR0.out | (with_reducible refine Kd.C_alloc ?_ _) | (with_reducible refine Kd.C_drewN ?_ _) | (with_reducible refine Kd.C_drew ?_))); (case side2 => exact HC0.out); rintro e w6 ⟨rfl, hb⟩; refine ⟨_, rfl, ?_⟩; have n0_ := Aside0.mk (below_step (by repeat (first | (with_reducible first | exact HB.out | apply below_alloc | apply pw_below_drewN | apply below_drew1) | exact HB.out)) hb); clear HB; have HB := n0_; clear n0_; (try clear hb); (try clear hb2); (try clear hk); (try clear hi)) | ((with_reducible refine gate_callee (f := 39) rfl ?_); refine goesL_ (some 12) rfl rfl Tryd.func39 (by kernel_rfl) rfl #[.slice A0 l0.length c0, .int .i64 a1] rfl (by (try simp only [List.map_toArray, List.map_cons, List.map_nil]); first | done | rfl | (simp only [List.length_drop, List.length_take]; rfl)) ?_; (with_reducible refine (tree_depth.calls k _ _ l0 a1 t321 _ ?side1 ?side2 A5.out).mono ?_); (case side1 => repeat (first | exact (Kd.C_below HR0.out HB.out) | (with_reducible refine Kd.C_alloc ?_ _) | (with_reducible refine Kd.C_drewN ?_ _) | (with_reducible refine Kd.C_drew ?_))); (case side2 => exact HC0.out); rintro e w7 ⟨rfl, hb⟩; refine ⟨_, rfl, ?_⟩; have n0_ := Aside0.mk (below_step (by repeat (first | (with_reducible first | exact HB.out | apply below_alloc | apply pw_below_drewN | apply below_drew1) | exact HB.out)) hb); clear HB; have HB := n0_; clear n0_; (try clear hb); (try clear hb2); (try clear hk); (try clear hi)))
    go_ret2
    exact ⟨by first | rfl | (simp [errW_none, errW_some] <;> rfl) | (simp [*, errW_none, errW_some] <;> rfl), by repeat (first | (with_reducible first | exact HB.out | apply below_alloc | apply pw_below_drewN | apply below_drew1) | exact HB.out)⟩
  · replace c4 := Bool.eq_false_iff.mpr c4
    subst c4
    have H1 : (some (0, 300)) = some (r1, r2) := by rw [if_neg (show ¬ (false = true) by decide)] at H; exact H
    clear H
    have H := H1
    clear H1
    simp only [Option.some.injEq, Prod.mk.injEq] at H
    obtain ⟨rfl, rfl⟩ := H
    go_enter Tryd.func14, Tryd.ntmps14
    go_wp2_with (first | ((with_reducible refine gate_callee (f := 38) rfl ?_); refine goesL_ (some 8) rfl rfl Tryd.func38 (by kernel_rfl) rfl #[.slice A0 l0.length c0, .int .i64 a1] rfl (by (try simp only [List.map_toArray, List.map_cons, List.map_nil]); first | done | rfl | (simp only [List.length_drop, List.length_take]; rfl)) ?_; (with_reducible refine (tree_there.calls k _ _ l0 a1 false _ ?side1 ?side2 A3.out).mono ?_); (case side1 => repeat (first | exact HR0.out | (with_reducible refine Kd.C_alloc ?_ _) | (with_reducible refine Kd.C_drewN ?_ _) | (with_reducible refine Kd.C_drew ?_))); (case side2 => exact HC0.out); rintro e w8 ⟨rfl, hb⟩; refine ⟨_, rfl, ?_⟩; have n0_ := Aside0.mk (below_step (by repeat (first | (with_reducible first | exact HB.out | apply below_alloc | apply pw_below_drewN | apply below_drew1) | exact HB.out)) hb); clear HB; have HB := n0_; clear n0_; (try clear hb); (try clear hb2); (try clear hk); (try clear hi)))
    go_ret2
    exact ⟨by first | rfl | (simp [errW_none, errW_some] <;> rfl) | (simp [*, errW_none, errW_some] <;> rfl), by repeat (first | (with_reducible first | exact HB.out | apply below_alloc | apply pw_below_drewN | apply below_drew1) | exact HB.out)⟩

end Go.Proofs.YtnogfhhfklkbiaaDoor.H

namespace Go.Proofs.YtnogfhhfklkbiaaDoor.H
open Go.RowKit Go.Proofs.YtnogfhhfklkbiaaDoorW.PrintWords Go.Proofs.YtnogfhhfklkbiaaDoorW.PrintLast Go.Proofs.YtnogfhhfklkbiaaDoorW.PrintMore
attribute [local go_sem] max2_int min2_int max_two min_two max_three min_three max_four min_four   -- for this text's walks alone
set_option linter.unusedVariables false
set_option linter.unusedSimpArgs false

/-! ### tree_base: function 69 -/
def tree_base.f (a0 : Int) : Option (Bool) := if a0 = 0 then (some true) else (some (a0 == 1))
set_option maxHeartbeats 8000000 in
set_option maxRecDepth 100000 in
theorem tree_base.calls (a0 : Int) (r : Bool) (w : World) (h : tree_base.f a0 = some r) :
    Calls Tryd.prog 69 #[.int .i64 a0] w fun e w' => e = .returned (.bool r) ∧ Drawn0 w w' := by
  have H : (if a0 = 0 then (some true) else (some (a0 == 1))) = some r := h
  clear h
  by_cases c2 : a0 = 0
  · rw [if_pos c2] at H
    have c2b0 : (a0 == 0) = true := beq_iff_eq.mpr c2
    have c2b1 : (a0 != 0) = false := bne_eq_false_iff_eq.mpr c2
    clear c2
    obtain rfl := Option.some.inj H
    go_enter Tryd.func69, Tryd.ntmps69
    go_wp2
    go_ret
    exact ⟨by first | rfl | (simp; done) | (simp [*]; done), by repeat (first | exact Drawn0.refl _ | apply Drawn0.step)⟩
  · rw [if_neg c2] at H
    have c2b0 : (a0 == 0) = false := beq_eq_false_iff_ne.mpr c2
    have c2b1 : (a0 != 0) = true := bne_iff_ne.mpr c2
    obtain rfl := Option.some.inj H
    go_enter Tryd.func69, Tryd.ntmps69
    go_wp2
    go_ret
    exact ⟨by first | rfl | (simp; done) | (simp [*]; done), by repeat (first | exact Drawn0.refl _ | apply Drawn0.step)⟩

end Go.Proofs.YtnogfhhfklkbiaaDoor.H

namespace Go.Proofs.YtnogfhhfklkbiaaDoor.H
open Go.RowKit Go.Proofs.YtnogfhhfklkbiaaDoorW.PrintWords Go.Proofs.YtnogfhhfklkbiaaDoorW.PrintLast Go.Proofs.YtnogfhhfklkbiaaDoorW.PrintMore
attribute [local go_sem] max2_int min2_int max_two min_two max_three min_three max_four min_four   -- for this text's walks alone
set_option linter.unusedVariables false
set_option linter.unusedSimpArgs false

/-! ### tree_OpsMay_1: function 67 -/
def tree_OpsMay_1.f (k : Nat) (a0_0 : ByteArray) (a0_1 : Int) (a0_2 : Int) : Option (Bool) := (lex_NameMay.f k a0_0).bind fun t309 => (if t309 = true then ((tree_base.f a0_1).bind fun t310 => (if t310 = true then ((tree_base.f a0_2).bind fun t311 => (some (!t311))) else (some true))) else (some true))
theorem tree_OpsMay_1.mono : ∀ a0 a1 a2 k, LeO (tree_OpsMay_1.f k a0 a1 a2) (tree_OpsMay_1.f (k + 1) a0 a1 a2) := by
  intro a0 a1 a2 k
  unfold tree_OpsMay_1.f
  repeat' first
      | (with_reducible exact lex_NameMay.mono _ _)
      | (with_reducible exact LeO.refl _)
      | (with_reducible exact LeO.none _)
      | (with_reducible refine LeO.ite ?_ ?_)
      | (with_reducible refine LeO.bind ?_ (fun _ => ?_))
      | exact lex_NameMay.mono _ _
      | exact LeO.none _
      | refine LeO.ite ?_ ?_
      | refine LeO.bind ?_ (fun _ => ?_)
set_option maxHeartbeats 8000000 in
set_option maxRecDepth 100000 in
theorem tree_OpsMay_1.calls (k : Nat) (a0_0 : ByteArray) (a0_1 : Int) (a0_2 : Int) (r : Bool) (w : World) (h : tree_OpsMay_1.f k a0_0 a0_1 a0_2 = some r) :
    Calls Tryd.prog 67 #[.agg #[.string a0_0, .int .i64 a0_1, .int .i64 a0_2]] w fun e w' => e = .returned (.bool r) ∧ Below w.heap.size w w' := by
  have hu48 := Tryd.underlying48
  have HB := Aside0.mk (Below.refl w.heap.size w)
  have H : ((lex_NameMay.f k a0_0).bind fun t309 => (if t309 = true then ((tree_base.f a0_1).bind fun t310 => (if t310 = true then ((tree_base.f a0_2).bind fun t311 => (some (!t311))) else (some true))) else (some true))) = some r := h
  clear h
  replace H := Option.bind_eq_some_iff.mp H
  obtain ⟨t309, A20, H⟩ := H
  replace H : (if t309 = true then ((tree_base.f a0_1).bind fun t310 => (if t310 = true then ((tree_base.f a0_2).bind fun t311 => (some (!t311))) else (some true))) else (some true)) = some r := H
  have A2 := Aside0.mk A20
  clear A20
  by_cases c3 : t309 = true
  · subst c3
    have H1 : ((tree_base.f a0_1).bind fun t310 => (if t310 = true then ((tree_base.f a0_2).bind fun t311 => (some (!t311))) else (some true))) = some r := by rw [if_pos rfl] at H; exact H
    clear H
    have H := H1
    clear H1
    replace H := Option.bind_eq_some_iff.mp H
    obtain ⟨t310, A40, H⟩ := H
    replace H : (if t310 = true then ((tree_base.f a0_2).bind fun t311 => (some (!t311))) else (some true)) = some r := H
    have A4 := Aside0.mk A40
    clear A40
    by_cases c5 : t310 = true
    · subst c5
      have H1 : ((tree_base.f a0_2).bind fun t311 => (some (!t311))) = some r := by rw [if_pos rfl] at H; exact H
      clear H
      have H := H1
      clear H1
      replace H := Option.bind_eq_some_iff.mp H
      obtain ⟨t311, A60, H⟩ := H
      replace H : (some (!t311)) = some r := H
      have A6 := Aside0.mk A60
      clear A60
      obtain rfl := Option.some.inj H
      go_enter Tryd.func67, Tryd.ntmps67
      go_wp2_with (first | ((with_reducible refine gate_dst (N := 1) rfl ?_); refine box_event ?hg (N := 1) ?hd (cs := #[.string a0_0, .int .i64 a0_1, .int .i64 a0_2]) (t := 48) ?hr ?_; (case hd => rfl); (case hg => rfl); (case hr => first | (go_simp; done) | (go_simp; rfl)); intro gb308 hg w7 hbox hb; have n0_ := Aside0.mk (below_step (by repeat (first | (with_reducible first | exact HB.out | apply below_alloc | apply pw_below_drewN | apply below_drew1) | exact HB.out)) hb); have n1_ := Aside0.mk (hbox); have n2_ := Aside0.mk ((by rw [hg]; exact (below_size (by repeat (first | (with_reducible first | exact HB.out | apply below_alloc | apply pw_below_drewN | apply below_drew1) | exact HB.out))) : w.heap.size ≤ gb308)); have n3_ := Aside0.mk ((by rw [hg]; exact (below_size (by repeat (first | (with_reducible first | exact HB.out | apply below_alloc | apply pw_below_drewN | apply below_drew1) | exact HB.out))) : w.heap.size ≤ gb308)); clear HB; have HB := n0_; have BK308 := n1_; have GW308 := n2_; have GE308 := n3_; clear n0_ n1_ n2_ n3_; clear hb hbox hg; have hcz8_0 : w7.cell? ⟨gb308, 0, none⟩ = some (.string a0_0) := (blk_cell BK308.out 0).trans rfl; have hcz8_1 : w7.cell? ⟨gb308, 1, none⟩ = some (.int .i64 a0_1) := (blk_cell BK308.out 1).trans rfl; have hcz8_2 : w7.cell? ⟨gb308, 2, none⟩ = some (.int .i64 a0_2) := (blk_cell BK308.out 2).trans rfl; have hfz8_0 := blk_frozen BK308.out 0; have hfz8_1 := blk_frozen BK308.out 1; have hfz8_2 := blk_frozen BK308.out 2) | ((with_reducible refine gate_callee (f := 68) rfl ?_); refine goesL_ (some 5) rfl rfl Tryd.func68 (by kernel_rfl) rfl #[.string a0_0] rfl (by (try simp only [List.map_toArray, List.map_cons, List.map_nil]); first | done | rfl | (simp only [List.length_drop, List.length_take]; rfl)) ?_; (with_reducible refine (lex_NameMay.calls k a0_0 true _ A2.out).mono ?_); rintro e w9 ⟨rfl, hb⟩; refine ⟨_, rfl, ?_⟩; have n0_ := Aside0.mk (blk_below (g := gb308) (o := .cells #[.string a0_0, .int .i64 a0_1, .int .i64 a0_2] 48 (0, 0)) (by (with_reducible repeat (first | refine blk_drewN ?_ _ | refine blk_drew ?_ | refine blk_alloc ?_ _)); exact BK308.out) hb); have n1_ := Aside0.mk (below_step (by repeat (first | (with_reducible first | exact HB.out | apply below_alloc | apply pw_below_drewN | apply below_drew1 | refine below_set ?_ GE308.out) | exact HB.out)) hb); clear BK308; clear HB; have BK308 := n0_; have HB := n1_; clear n0_ n1_; (try clear hb); (try clear hb2); (try clear hk); (try clear hi); have hcz10_0 : w9.cell? ⟨gb308, 0, none⟩ = some (.string a0_0) := (blk_cell BK308.out 0).trans rfl; have hcz10_1 : w9.cell? ⟨gb308, 1, none⟩ = some (.int .i64 a0_1) := (blk_cell BK308.out 1).trans rfl; have hcz10_2 : w9.cell? ⟨gb308, 2, none⟩ = some (.int .i64 a0_2) := (blk_cell BK308.out 2).trans rfl; have hfz10_0 := blk_frozen BK308.out 0; have hfz10_1 := blk_frozen BK308.out 1; have hfz10_2 := blk_frozen BK308.out 2) | (go_at_call 69; (with_reducible refine (tree_base.calls a0_1 true _ A4.out).mono ?_); rintro e w' ⟨rfl, ⟨nd, rfl⟩⟩) | (go_at_call 69; (with_reducible refine (tree_base.calls a0_2 t311 _ A6.out).mono ?_); rintro e w' ⟨rfl, ⟨nd, rfl⟩⟩))
      go_ret
      exact ⟨by first | rfl | (simp [errW_none, errW_some] <;> rfl) | (simp [*, errW_none, errW_some] <;> rfl), by repeat (first | (with_reducible first | exact HB.out | apply below_alloc | apply pw_below_drewN | apply below_drew1 | refine below_set ?_ GE308.out) | exact HB.out)⟩
    · replace c5 := Bool.eq_false_iff.mpr c5
      subst c5
      have H1 : (some true) = some r := by rw [if_neg (show ¬ (false = true) by decide)] at H; exact H
      clear H
      have H := H1
      clear H1
      obtain rfl := Option.some.inj H
      go_enter Tryd.func67, Tryd.ntmps67
      go_wp2_with (first | ((with_reducible refine gate_dst (N := 1) rfl ?_); refine box_event ?hg (N := 1) ?hd (cs := #[.string a0_0, .int .i64 a0_1, .int .i64 a0_2]) (t := 48) ?hr ?_; (case hd => rfl); (case hg => rfl); (case hr => first | (go_simp; done) | (go_simp; rfl)); intro gb308 hg w11 hbox hb; have n0_ := Aside0.mk (below_step (by repeat (first | (with_reducible first | exact HB.out | apply below_alloc | apply pw_below_drewN | apply below_drew1) | exact HB.out)) hb); have n1_ := Aside0.mk (hbox); have n2_ := Aside0.mk ((by rw [hg]; exact (below_size (by repeat (first | (with_reducible first | exact HB.out | apply below_alloc | apply pw_below_drewN | apply below_drew1) | exact HB.out))) : w.heap.size ≤ gb308)); have n3_ := Aside0.mk ((by rw [hg]; exact (below_size (by repeat (first | (with_reducible first | exact HB.out | apply below_alloc | apply pw_below_drewN | apply below_drew1) | exact HB.out))) : w.heap.size ≤ gb308)); clear HB; have HB := n0_; have BK308 := n1_; have GW308 := n2_; have GE308 := n3_; clear n0_ n1_ n2_ n3_; clear hb hbox hg; have hcz12_0 : w11.cell? ⟨gb308, 0, none⟩ = some (.string a0_0) := (blk_cell BK308.out 0).trans rfl; have hcz12_1 : w11.cell? ⟨gb308, 1, none⟩ = some (.int .i64 a0_1) := (blk_cell BK308.out 1).trans rfl; have hcz12_2 : w11.cell? ⟨gb308, 2, none⟩ = some (.int .i64 a0_2) := (blk_cell BK308.out 2).trans rfl; have hfz12_0 := blk_frozen BK308.out 0; have hfz12_1 := blk_frozen BK308.out 1; have hfz12_2 := blk_frozen BK308.out 2) | ((with_reducible refine gate_callee (f := 68) rfl ?_); refine goesL_ (some 5) rfl rfl Tryd.func68 (by kernel_rfl) rfl #[.string a0_0] rfl (by (try simp only [List.map_toArray, List.map_cons, List.map_nil]); first | done | rfl | (simp only [List.length_drop, List.length_take]; rfl)) ?_; (with_reducible refine (lex_NameMay.calls k a0_0 true _ A2.out).mono ?_); rintro e w13 ⟨rfl, hb⟩; refine ⟨_, rfl, ?_⟩; have n0_ := Aside0.mk (blk_below (g := gb308) (o := .cells #[.string a0_0, .int .i64 a0_1, .int .i64 a0_2] 48 (0, 0)) (by (with_reducible repeat (first | refine blk_drewN ?_ _ | refine blk_drew ?_ | refine blk_alloc ?_ _)); exact BK308.out) hb); have n1_ := Aside0.mk (below_step (by repeat (first | (with_reducible first | exact HB.out | apply below_alloc | apply pw_below_drewN | apply below_drew1 | refine below_set ?_ GE308.out) | exact HB.out)) hb); clear BK308; clear HB; have BK308 := n0_; have HB := n1_; clear n0_ n1_; (try clear hb); (try clear hb2); (try clear hk); (try clear hi); have hcz14_0 : w13.cell? ⟨gb308, 0, none⟩ = some (.string a0_0) := (blk_cell BK308.out 0).trans rfl; have hcz14_1 : w13.cell? ⟨gb308, 1, none⟩ = some (.int .i64 a0_1) := (blk_cell BK308.out 1).trans rfl; have hcz14_2 : w13.cell? ⟨gb308, 2, none⟩ = some (.int .i64 a0_2) := (blk_cell BK308.out 2).trans rfl; have hfz14_0 := blk_frozen BK308.out 0; have hfz14_1 := blk_frozen BK308.out 1; have hfz14_2 := blk_frozen BK308.out 2) | (go_at_call 69; (with_reducible refine (tree_base.calls a0_1 false _ A4.out).mono ?_); rintro e w' ⟨rfl, ⟨nd, rfl⟩⟩))
      go_ret
      exact ⟨by first | rfl | (simp [errW_none, errW_some] <;> rfl) | (simp [*, errW_none, errW_some] <;> rfl), by repeat (first | (with_reducible first | exact HB.out | apply below_alloc | apply pw_below_drewN | apply below_drew1 | refine below_set ?_ GE308.out) | exact HB.out)⟩
  · replace c3 := Bool.eq_false_iff.mpr c3
    subst c3
    have H1 : (some true) = some r := by rw [if_neg (show ¬ (false = true) by decide)] at H; exact H
    clear H
    have H := H1
    clear H1
    obtain rfl := Option.some.inj H
    go_enter Tryd.func67, Tryd.ntmps67
    go_wp2_with (first | ((with_reducible refine gate_dst (N := 1) rfl ?_); refine box_event ?hg (N := 1) ?hd (cs := #[.string a0_0, .int .i64 a0_1, .int .i64 a0_2]) (t := 48) ?hr ?_; (case hd => rfl); (case hg => rfl); (case hr => first | (go_simp; done) | (go_simp; rfl)); intro gb308 hg w15 hbox hb; have n0_ := Aside0.mk (below_step (by repeat (first | (with_reducible first | exact HB.out | apply below_alloc | apply pw_below_drewN | apply below_drew1) | exact HB.out)) hb); have n1_ := Aside0.mk (hbox); have n2_ := Aside0.mk ((by rw [hg]; exact (below_size (by repeat (first | (with_reducible first | exact HB.out | apply below_alloc | apply pw_below_drewN | apply below_drew1) | exact HB.out))) : w.heap.size ≤ gb308)); have n3_ := Aside0.mk ((by rw [hg]; exact (below_size (by repeat (first | (with_reducible first | exact HB.out | apply below_alloc | apply pw_below_drewN | apply below_drew1) | exact HB.out))) : w.heap.size ≤ gb308)); clear HB; have HB := n0_; have BK308 := n1_; have GW308 := n2_; have GE308 := n3_; clear n0_ n1_ n2_ n3_; clear hb hbox hg; have hcz16_0 : w15.cell? ⟨gb308, 0, none⟩ = some (.string a0_0) := (blk_cell BK308.out 0).trans rfl; have hcz16_1 : w15.cell? ⟨gb308, 1, none⟩ = some (.int .i64 a0_1) := (blk_cell BK308.out 1).trans rfl; have hcz16_2 : w15.cell? ⟨gb308, 2, none⟩ = some (.int .i64 a0_2) := (blk_cell BK308.out 2).trans rfl; have hfz16_0 := blk_frozen BK308.out 0; have hfz16_1 := blk_frozen BK308.out 1; have hfz16_2 := blk_frozen BK308.out 2) | ((with_reducible refine gate_callee (f := 68) rfl ?_); refine goesL_ (some 5) rfl rfl Tryd.func68 (by kernel_rfl) rfl #[.string a0_0] rfl (by (try simp only [List.map_toArray, List.map_cons, List.map_nil]); first | done | rfl | (simp only [List.length_drop, List.length_take]; rfl)) ?_; (with_reducible refine (lex_NameMay.calls k a0_0 false _ A2.out).mono ?_); rintro e w17 ⟨rfl, hb⟩; refine ⟨_, rfl, ?_⟩; have n0_ := Aside0.mk (blk_below (g := gb308) (o := .cells #[.string a0_0, .int .i64 a0_1, .int .i64 a0_2] 48 (0, 0)) (by (with_reducible repeat (first | refine blk_drewN ?_ _ | refine blk_drew ?_ | refine blk_alloc ?_ _)); exact BK308.out) hb); have n1_ := Aside0.mk (below_step (by repeat (first | (with_reducible first | exact HB.out | apply below_alloc | apply pw_below_drewN | apply below_drew1 | refine below_set ?_ GE308.out) | exact HB.out)) hb); clear BK308; clear HB; have BK308 := n0_; have HB := n1_; clear n0_ n1_; (try clear hb); (try clear hb2); (try clear hk); (try clear hi)))
    go_ret
    exact ⟨by first | rfl | (simp [errW_none, errW_some] <;> rfl) | (simp [*, errW_none, errW_some] <;> rfl), by repeat (first | (with_reducible first | exact HB.out | apply below_alloc | apply pw_below_drewN | apply below_drew1 | refine below_set ?_ GE308.out) | exact HB.out)⟩

end Go.Proofs.YtnogfhhfklkbiaaDoor.H

namespace Go.Proofs.YtnogfhhfklkbiaaDoor.H
open Go.RowKit Go.Proofs.YtnogfhhfklkbiaaDoorW.PrintWords Go.Proofs.YtnogfhhfklkbiaaDoorW.PrintLast Go.Proofs.YtnogfhhfklkbiaaDoorW.PrintMore
attribute [local go_sem] max2_int min2_int max_two min_two max_three min_three max_four min_four   -- for this text's walks alone
set_option linter.unusedVariables false
set_option linter.unusedSimpArgs false

/-! ### slices_IndexFunc_Op: function 91 -/
-- for slices.IndexFunc[[]trammel/api.Op,trammel/api.Op]
-- rounds
/-- The first operation that is bad; -1: there is none. -/
def goIdx (k : Nat) : List S48 → Nat → Option Int
  | [], _ => some (-1)
  | o :: os, i => (tree_OpsMay_1.f k o.f0 o.f1 o.f2).bind fun b => if b = true then some (i : Int) else goIdx k os (i + 1)
theorem goIdx_mono (k : Nat) : ∀ os i, LeO (goIdx k os i) (goIdx (k + 1) os i)
  | [], i => LeO.refl _
  | o :: os, i => by
    unfold goIdx
    exact LeO.bind (tree_OpsMay_1.mono _ _ _ k) fun b => LeO.ite (LeO.refl _) (goIdx_mono k os _)
theorem hr_dropB {α : Type} {l : List α} {i : Nat} {c : α} (h : l[i]? = some c) : c :: l.drop (i + 1) = l.drop i := by
  obtain ⟨hi, rfl⟩ := List.getElem?_eq_some_iff.1 h
  exact (List.drop_eq_getElem_cons hi).symm
set_option maxRecDepth 100000 in
set_option maxHeartbeats 8000000 in
theorem indexFunc_calls (k : Nat) (A0 : Option Addr) (c0 : Nat) (l0 : List S48) (r : Int) (w : World) (hr0 : Kd.C k48 w A0 l0.length l0) (hc0 : l0.length ≤ c0) (hl : l0.length ≤ 4) (h : goIdx k l0 0 = some r) :
    Calls Tryd.prog 91 #[.slice A0 l0.length c0, .func (.func 67) #[] #[]] w fun e w' => e = .returned (.int .i64 r) ∧ Below w.heap.size w w' := by
  have HC := Aside0.mk hr0
  have H := Aside0.mk h
  clear hr0 h
  go_enter Tryd.func91, Tryd.ntmps91
  go_wp2_with fail
  go_loopw [8] (fun v8 wr => ∃ (i : Nat), v8 = .int .i64 i ∧ i ≤ l0.length ∧ Aside0 (goIdx k (l0.drop i) i = some r) ∧ Aside0 (Below w.heap.size w wr)) (fun v8 _ => l0.length - (intOf v8).toNat)
  case atStart => exact ⟨0, rfl, Nat.zero_le _, H, ⟨Below.refl _ _⟩⟩
  case round =>
    obtain ⟨i, rfl, hi, HG, HB⟩ := hrel
    clear H
    by_cases hlt : i < l0.length
    · have hcr : Kd.C k48 wr A0 l0.length l0 := Kd.C_below HC.out HB.out
      obtain ⟨ad, e157, hx0, hx1, hx2⟩ := at_T48 hcr i (by omega) (by omega)
      cases e157
      have hxx : l0[i]? = some (rd_T48 l0 i) := by
        rw [List.getElem?_eq_getElem hlt, rd_T48, Int.toNat_natCast, List.getD_eq_getElem?_getD, List.getElem?_eq_getElem hlt]
        rfl
      have hg := HG.out
      rw [← hr_dropB hxx, goIdx] at hg
      replace hg := Option.bind_eq_some_iff.mp hg
      obtain ⟨b, hb, hg⟩ := hg
      have HBB := Aside0.mk hb
      have HG2 := Aside0.mk hg
      rw [Int.toNat_natCast] at hx0 hx1 hx2
      generalize rd_T48 l0 i = x at *
      clear hb hg hxx hcr HG
      cases b
      · have hg := HG2.out
        simp only [Bool.false_eq_true, if_false] at hg
        have HG3 := Aside0.mk hg
        clear hg HG2
        go_wp2_with (go_at_call 67; (with_reducible refine (tree_OpsMay_1.calls k x.f0 x.f1 x.f2 false _ HBB.out).mono ?_); rintro e w3 ⟨rfl, hb3⟩; have HB3 := Aside0.mk hb3; clear hb3)
        go_roundw
        case rel => exact ⟨i + 1, by go_num, by omega, HG3, ⟨HB.out.trans (HB3.out.mono HB.out.size)⟩⟩
        case measure => simp [intOf]; omega
      · have hg := HG2.out
        simp only [if_true] at hg
        obtain rfl := Option.some.inj hg
        clear hg HG2
        go_wp2_with (go_at_call 67; (with_reducible refine (tree_OpsMay_1.calls k x.f0 x.f1 x.f2 true _ HBB.out).mono ?_); rintro e w3 ⟨rfl, hb3⟩; have HB3 := Aside0.mk hb3; clear hb3)
        go_ret
        exact ⟨rfl, HB.out.trans (HB3.out.mono HB.out.size)⟩
    · have hg := HG.out
      rw [List.drop_eq_nil_of_le (by omega), goIdx] at hg
      obtain rfl := Option.some.inj hg
      clear hg HG
      go_wp2
      go_ret
      exact ⟨rfl, HB.out⟩


end Go.Proofs.YtnogfhhfklkbiaaDoor.H

namespace Go.Proofs.YtnogfhhfklkbiaaDoor.H
open Go.RowKit Go.Proofs.YtnogfhhfklkbiaaDoorW.PrintWords Go.Proofs.YtnogfhhfklkbiaaDoorW.PrintLast Go.Proofs.YtnogfhhfklkbiaaDoorW.PrintMore
attribute [local go_sem] max2_int min2_int max_two min_two max_three min_three max_four min_four   -- for this text's walks alone
set_option linter.unusedVariables false
set_option linter.unusedSimpArgs false

/-! ### tree_OpsMay: function 46 -/
-- rounds -- making
def tree_OpsMay.f (k : Nat) (l : List S48) : Option Bool := if l.length ≤ 4 then (goIdx k l 0).bind fun r => some (!decide (r ≥ 0)) else some false
theorem tree_OpsMay.mono : ∀ a0 k, LeO (tree_OpsMay.f k a0) (tree_OpsMay.f (k + 1) a0) := by
  intro a0 k
  unfold tree_OpsMay.f
  exact LeO.ite (LeO.bind (goIdx_mono k _ _) fun _ => LeO.refl _) (LeO.refl _)
set_option maxRecDepth 100000 in
set_option maxHeartbeats 8000000 in
theorem containsFunc_calls (k : Nat) (A0 : Option Addr) (c0 : Nat) (l0 : List S48) (r : Int) (w : World) (hr0 : Kd.C k48 w A0 l0.length l0) (hc0 : l0.length ≤ c0) (hl : l0.length ≤ 4) (h : goIdx k l0 0 = some r) :
    Calls Tryd.prog 70 #[.slice A0 l0.length c0, .func (.func 67) #[] #[]] w fun e w' => e = .returned (.bool (decide (0 ≤ r))) ∧ Below w.heap.size w w' := by
  have C := Aside0.mk (indexFunc_calls k A0 c0 l0 r w hr0 hc0 hl h)
  clear hr0 hc0 h
  go_enter Tryd.func70, Tryd.ntmps70
  go_wp2_with (go_at_call 91; refine C.out.mono ?_; rintro e w3 ⟨rfl, hb3⟩; have HB3 := Aside0.mk hb3; clear hb3)
  go_ret
  exact ⟨rfl, HB3.out⟩
set_option maxRecDepth 100000 in
set_option maxHeartbeats 8000000 in
theorem tree_OpsMay.calls (k : Nat) (A0 : Option Addr) (c0 : Nat) (l0 : List (S48)) (r : Bool) (w : World) (hr0 : Kd.C k48 w A0 l0.length l0) (hc0 : l0.length ≤ c0) (h : tree_OpsMay.f k l0 = some r) :
    Calls Tryd.prog 46 #[.slice A0 l0.length c0] w fun e w' => e = .returned (.bool r) ∧ Below w.heap.size w w' := by
  unfold tree_OpsMay.f at h
  by_cases hl : l0.length ≤ 4
  · rw [if_pos hl] at h
    replace h := Option.bind_eq_some_iff.mp h
    obtain ⟨q, hq, h⟩ := h
    obtain rfl := Option.some.inj h
    have C := Aside0.mk (containsFunc_calls k A0 c0 l0 q w hr0 hc0 hl hq)
    have b1 : decide ((l0.length : Int) ≤ 4) = true := decide_eq_true (by omega)
    clear hr0 hc0 hq h
    go_enter Tryd.func46, Tryd.ntmps46
    go_wp2_with (go_at_call 70; refine C.out.mono ?_; rintro e w3 ⟨rfl, hb3⟩; have HB3 := Aside0.mk hb3; clear hb3)
    go_ret
    exact ⟨by first | rfl | (simp; done), HB3.out⟩
  · rw [if_neg hl] at h
    obtain rfl := Option.some.inj h
    have b1 : decide ((l0.length : Int) ≤ 4) = false := decide_eq_false (by omega)
    clear hr0 hc0 h
    go_enter Tryd.func46, Tryd.ntmps46
    go_wp2
    go_ret
    exact ⟨by first | rfl | (simp; done), Below.refl _ _⟩


end Go.Proofs.YtnogfhhfklkbiaaDoor.H

namespace Go.Proofs.YtnogfhhfklkbiaaDoor.H
open Go.RowKit Go.Proofs.YtnogfhhfklkbiaaDoorW.PrintWords Go.Proofs.YtnogfhhfklkbiaaDoorW.PrintLast Go.Proofs.YtnogfhhfklkbiaaDoorW.PrintMore
attribute [local go_sem] max2_int min2_int max_two min_two max_three min_three max_four min_four   -- for this text's walks alone
set_option linter.unusedVariables false
set_option linter.unusedSimpArgs false

/-! ### tree_May: function 20 -/
def tree_May.f (k : Nat) (l0_0 : List (S48)) (l0_1 : List (S45)) : Option (Bool) := (tree_OpsMay.f k l0_0).bind fun t323 => (if t323 = true then ((tree_Shaped.f k l0_1 true).bind fun t324 => (some t324)) else (some false))
theorem tree_May.mono : ∀ a0 a1 k, LeO (tree_May.f k a0 a1) (tree_May.f (k + 1) a0 a1) := by
  intro a0 a1 k
  unfold tree_May.f
  repeat' first
      | (with_reducible exact tree_OpsMay.mono _ _)
      | (with_reducible exact tree_Shaped.mono _ _ _)
      | (with_reducible exact LeO.refl _)
      | (with_reducible exact LeO.none _)
      | (with_reducible refine LeO.ite ?_ ?_)
      | (with_reducible refine LeO.bind ?_ (fun _ => ?_))
      | exact tree_OpsMay.mono _ _
      | exact tree_Shaped.mono _ _ _
      | exact LeO.none _
      | refine LeO.ite ?_ ?_
      | refine LeO.bind ?_ (fun _ => ?_)
set_option maxHeartbeats 8000000 in
set_option maxRecDepth 100000 in
theorem tree_May.calls (k : Nat) (A0_0 : Option Addr) (c0_0 : Nat) (l0_0 : List (S48)) (A0_1 : Option Addr) (c0_1 : Nat) (l0_1 : List (S45)) (r : Bool) (w : World) (hr0_0 : Kd.C k48 w A0_0 l0_0.length l0_0) (hc0_0 : l0_0.length ≤ c0_0) (hr0_1 : Kd.C k45 w A0_1 l0_1.length l0_1) (hc0_1 : l0_1.length ≤ c0_1) (h : tree_May.f k l0_0 l0_1 = some r) :
    Calls Tryd.prog 20 #[.agg #[.slice A0_0 l0_0.length c0_0, .slice A0_1 l0_1.length c0_1]] w fun e w' => e = .returned (.bool r) ∧ Below w.heap.size w w' := by
  have hu25 := Tryd.underlying25
  have HR0_0 := Aside0.mk hr0_0
  have HC0_0 := Aside0.mk hc0_0
  clear hr0_0 hc0_0
  have HR0_1 := Aside0.mk hr0_1
  have HC0_1 := Aside0.mk hc0_1
  clear hr0_1 hc0_1
  have HB := Aside0.mk (Below.refl w.heap.size w)
  have H : ((tree_OpsMay.f k l0_0).bind fun t323 => (if t323 = true then ((tree_Shaped.f k l0_1 true).bind fun t324 => (some t324)) else (some false))) = some r := h
  clear h
  replace H := Option.bind_eq_some_iff.mp H
  obtain ⟨t323, A20, H⟩ := H
  replace H : (if t323 = true then ((tree_Shaped.f k l0_1 true).bind fun t324 => (some t324)) else (some false)) = some r := H
  have A2 := Aside0.mk A20
  clear A20
  by_cases c3 : t323 = true
  · subst c3
    have H1 : ((tree_Shaped.f k l0_1 true).bind fun t324 => (some t324)) = some r := by rw [if_pos rfl] at H; exact H
    clear H
    have H := H1
    clear H1
    replace H := Option.bind_eq_some_iff.mp H
    obtain ⟨t324, A40, H⟩ := H
    replace H : (some t324) = some r := H
    have A4 := Aside0.mk A40
    clear A40
    obtain rfl := Option.some.inj H
    go_enter Tryd.func20, Tryd.ntmps20
    go_wp2_with (first | ((with_reducible refine gate_dst (N := 1) rfl ?_); refine box_event ?hg (N := 1) ?hd (cs := #[.slice A0_0 l0_0.length c0_0, .slice A0_1 l0_1.length c0_1]) (t := 25) ?hr ?_; (case hd => rfl); (case hg => rfl); (case hr => first | (go_simp; done) | (go_simp; rfl)); intro gb322 hg w5 hbox hb; have n0_ := Aside0.mk (below_step (by repeat (first | (with_reducible first | exact HB.out | apply below_alloc | apply pw_below_drewN | apply below_drew1) | exact HB.out)) hb); have n1_ := Aside0.mk (hbox); have n2_ := Aside0.mk ((by rw [hg]; exact (below_size (by repeat (first | (with_reducible first | exact HB.out | apply below_alloc | apply pw_below_drewN | apply below_drew1) | exact HB.out))) : w.heap.size ≤ gb322)); have n3_ := Aside0.mk ((by rw [hg]; exact (below_size (by repeat (first | (with_reducible first | exact HB.out | apply below_alloc | apply pw_below_drewN | apply below_drew1) | exact HB.out))) : w.heap.size ≤ gb322)); clear HB; have HB := n0_; have BK322 := n1_; have GW322 := n2_; have GE322 := n3_; clear n0_ n1_ n2_ n3_; clear hb hbox hg; have hcz6_0 : w5.cell? ⟨gb322, 0, none⟩ = some (.slice A0_0 l0_0.length c0_0) := (blk_cell BK322.out 0).trans rfl; have hcz6_1 : w5.cell? ⟨gb322, 1, none⟩ = some (.slice A0_1 l0_1.length c0_1) := (blk_cell BK322.out 1).trans rfl; have hfz6_0 := blk_frozen BK322.out 0; have hfz6_1 := blk_frozen BK322.out 1) | ((with_reducible refine gate_callee (f := 46) rfl ?_); refine goesL_ (some 5) rfl rfl Tryd.func46 (by kernel_rfl) rfl #[.slice A0_0 l0_0.length c0_0] rfl (by (try simp only [List.map_toArray, List.map_cons, List.map_nil]); first | done | rfl | (simp only [List.length_drop, List.length_take]; rfl)) ?_; (with_reducible refine (tree_OpsMay.calls k _ _ l0_0 true _ ?side1 ?side2 A2.out).mono ?_); (case side1 => repeat (first | exact (Kd.C_below HR0_0.out HB.out) | (with_reducible refine Kd.C_alloc ?_ _) | (with_reducible refine Kd.C_drewN ?_ _) | (with_reducible refine Kd.C_drew ?_))); (case side2 => exact HC0_0.out); rintro e w7 ⟨rfl, hb⟩; refine ⟨_, rfl, ?_⟩; have n0_ := Aside0.mk (blk_below (g := gb322) (o := .cells #[.slice A0_0 l0_0.length c0_0, .slice A0_1 l0_1.length c0_1] 25 (0, 0)) (by (with_reducible repeat (first | refine blk_drewN ?_ _ | refine blk_drew ?_ | refine blk_alloc ?_ _)); exact BK322.out) hb); have n1_ := Aside0.mk (below_step (by repeat (first | (with_reducible first | exact HB.out | apply below_alloc | apply pw_below_drewN | apply below_drew1 | refine below_set ?_ GE322.out) | exact HB.out)) hb); clear BK322; clear HB; have BK322 := n0_; have HB := n1_; clear n0_ n1_; (try clear hb); (try clear hb2); (try clear hk); (try clear hi); have hcz8_0 : w7.cell? ⟨gb322, 0, none⟩ = some (.slice A0_0 l0_0.length c0_0) := (blk_cell BK322.out 0).trans rfl; have hcz8_1 : w7.cell? ⟨gb322, 1, none⟩ = some (.slice A0_1 l0_1.length c0_1) := (blk_cell BK322.out 1).trans rfl; have hfz8_0 := blk_frozen BK322.out 0; have hfz8_1 := blk_frozen BK322.out 1) | (go_at_call 47; (with_reducible refine (tree_Shaped.calls k _ _ l0_1 true t324 _ ?side1 ?side2 A4.out).mono ?_); (case side1 => repeat (first | exact (Kd.C_below HR0_1.out HB.out) | (with_reducible refine Kd.C_alloc ?_ _) | (with_reducible refine Kd.C_drewN ?_ _) | (with_reducible refine Kd.C_drew ?_))); (case side2 => exact HC0_1.out); rintro e w9 ⟨rfl, hb⟩; have n0_ := Aside0.mk (blk_below (g := gb322) (o := .cells #[.slice A0_0 l0_0.length c0_0, .slice A0_1 l0_1.length c0_1] 25 (0, 0)) (by (with_reducible repeat (first | refine blk_drewN ?_ _ | refine blk_drew ?_ | refine blk_alloc ?_ _)); exact BK322.out) hb); have n1_ := Aside0.mk (below_step (by repeat (first | (with_reducible first | exact HB.out | apply below_alloc | apply pw_below_drewN | apply below_drew1 | refine below_set ?_ GE322.out) | exact HB.out)) hb); clear BK322; clear HB; have BK322 := n0_; have HB := n1_; clear n0_ n1_; (try clear hb); (try clear hb2); (try clear hk); (try clear hi)))
    go_ret
    exact ⟨by first | rfl | (simp [errW_none, errW_some] <;> rfl) | (simp [*, errW_none, errW_some] <;> rfl), by repeat (first | (with_reducible first | exact HB.out | apply below_alloc | apply pw_below_drewN | apply below_drew1 | refine below_set ?_ GE322.out) | exact HB.out)⟩
  · replace c3 := Bool.eq_false_iff.mpr c3
    subst c3
    have H1 : (some false) = some r := by rw [if_neg (show ¬ (false = true) by decide)] at H; exact H
    clear H
    have H := H1
    clear H1
    obtain rfl := Option.some.inj H
    go_enter Tryd.func20, Tryd.ntmps20
    go_wp2_with (first | ((with_reducible refine gate_dst (N := 1) rfl ?_); refine box_event ?hg (N := 1) ?hd (cs := #[.slice A0_0 l0_0.length c0_0, .slice A0_1 l0_1.length c0_1]) (t := 25) ?hr ?_; (case hd => rfl); (case hg => rfl); (case hr => first | (go_simp; done) | (go_simp; rfl)); intro gb322 hg w10 hbox hb; have n0_ := Aside0.mk (below_step (by repeat (first | (with_reducible first | exact HB.out | apply below_alloc | apply pw_below_drewN | apply below_drew1) | exact HB.out)) hb); have n1_ := Aside0.mk (hbox); have n2_ := Aside0.mk ((by rw [hg]; exact (below_size (by repeat (first | (with_reducible first | exact HB.out | apply below_alloc | apply pw_below_drewN | apply below_drew1) | exact HB.out))) : w.heap.size ≤ gb322)); have n3_ := Aside0.mk ((by rw [hg]; exact (below_size (by repeat (first | (with_reducible first | exact HB.out | apply below_alloc | apply pw_below_drewN | apply below_drew1) | exact HB.out))) : w.heap.size ≤ gb322)); clear HB; have HB := n0_; have BK322 := n1_; have GW322 := n2_; have GE322 := n3_; clear n0_ n1_ n2_ n3_; clear hb hbox hg; have hcz11_0 : w10.cell? ⟨gb322, 0, none⟩ = some (.slice A0_0 l0_0.length c0_0) := (blk_cell BK322.out 0).trans rfl; have hcz11_1 : w10.cell? ⟨gb322, 1, none⟩ = some (.slice A0_1 l0_1.length c0_1) := (blk_cell BK322.out 1).trans rfl; have hfz11_0 := blk_frozen BK322.out 0; have hfz11_1 := blk_frozen BK322.out 1) | ((with_reducible refine gate_callee (f := 46) rfl ?_); refine goesL_ (some 5) rfl rfl Tryd.func46 (by kernel_rfl) rfl #[.slice A0_0 l0_0.length c0_0] rfl (by (try simp only [List.map_toArray, List.map_cons, List.map_nil]); first | done | rfl | (simp only [List.length_drop, List.length_take]; rfl)) ?_; (with_reducible refine (tree_OpsMay.calls k _ _ l0_0 false _ ?side1 ?side2 A2.out).mono ?_); (case side1 => repeat (first | exact (Kd.C_below HR0_0.out HB.out) | (with_reducible refine Kd.C_alloc ?_ _) | (with_reducible refine Kd.C_drewN ?_ _) | (with_reducible refine Kd.C_drew ?_))); (case side2 => exact HC0_0.out); rintro e w12 ⟨rfl, hb⟩; refine ⟨_, rfl, ?_⟩; have n0_ := Aside0.mk (blk_below (g := gb322) (o := .cells #[.slice A0_0 l0_0.length c0_0, .slice A0_1 l0_1.length c0_1] 25 (0, 0)) (by (with_reducible repeat (first | refine blk_drewN ?_ _ | refine blk_drew ?_ | refine blk_alloc ?_ _)); exact BK322.out) hb); have n1_ := Aside0.mk (below_step (by repeat (first | (with_reducible first | exact HB.out | apply below_alloc | apply pw_below_drewN | apply below_drew1 | refine below_set ?_ GE322.out) | exact HB.out)) hb); clear BK322; clear HB; have BK322 := n0_; have HB := n1_; clear n0_ n1_; (try clear hb); (try clear hb2); (try clear hk); (try clear hi)))
    go_ret
    exact ⟨by first | rfl | (simp [errW_none, errW_some] <;> rfl) | (simp [*, errW_none, errW_some] <;> rfl), by repeat (first | (with_reducible first | exact HB.out | apply below_alloc | apply pw_below_drewN | apply below_drew1 | refine below_set ?_ GE322.out) | exact HB.out)⟩

end Go.Proofs.YtnogfhhfklkbiaaDoor.H

namespace Go.Proofs.YtnogfhhfklkbiaaDoor.H
open Go.RowKit Go.Proofs.YtnogfhhfklkbiaaDoorW.PrintWords Go.Proofs.YtnogfhhfklkbiaaDoorW.PrintLast Go.Proofs.YtnogfhhfklkbiaaDoorW.PrintMore
attribute [local go_sem] max2_int min2_int max_two min_two max_three min_three max_four min_four   -- for this text's walks alone
set_option linter.unusedVariables false
set_option linter.unusedSimpArgs false

attribute [local go_sem high] eqA45
/-! ### tree_Same_1: function 51 -/
def tree_Same_1.f (a0_0 : Int) (a0_1 : Int) (a0_2 : Int) (a0_3 : Int) (a0_4 : Int) (a0_5 : ByteArray) (a0_6 : ByteArray) (a0_7 : ByteArray) (a0_8 : ByteArray) (a0_9 : Int) (a1_0 : Int) (a1_1 : Int) (a1_2 : Int) (a1_3 : Int) (a1_4 : Int) (a1_5 : ByteArray) (a1_6 : ByteArray) (a1_7 : ByteArray) (a1_8 : ByteArray) (a1_9 : Int) : Option (Bool) := some (a0_0 == a1_0 && (a0_1 == a1_1 && (a0_2 == a1_2 && (a0_3 == a1_3 && (a0_4 == a1_4 && (a0_5.toList == a1_5.toList && (a0_6.toList == a1_6.toList && (a0_7.toList == a1_7.toList && (a0_8.toList == a1_8.toList)))))))))
set_option maxHeartbeats 8000000 in
set_option maxRecDepth 100000 in
theorem tree_Same_1.calls (a0_0 : Int) (a0_1 : Int) (a0_2 : Int) (a0_3 : Int) (a0_4 : Int) (a0_5 : ByteArray) (a0_6 : ByteArray) (a0_7 : ByteArray) (a0_8 : ByteArray) (a0_9 : Int) (a1_0 : Int) (a1_1 : Int) (a1_2 : Int) (a1_3 : Int) (a1_4 : Int) (a1_5 : ByteArray) (a1_6 : ByteArray) (a1_7 : ByteArray) (a1_8 : ByteArray) (a1_9 : Int) (r : Bool) (w : World) (h : tree_Same_1.f a0_0 a0_1 a0_2 a0_3 a0_4 a0_5 a0_6 a0_7 a0_8 a0_9 a1_0 a1_1 a1_2 a1_3 a1_4 a1_5 a1_6 a1_7 a1_8 a1_9 = some r) :
    Calls Tryd.prog 51 #[.agg #[.int .i64 a0_0, .int .i64 a0_1, .int .i64 a0_2, .int .i64 a0_3, .int .i64 a0_4, .string a0_5, .string a0_6, .string a0_7, .string a0_8, .int .i64 a0_9], .agg #[.int .i64 a1_0, .int .i64 a1_1, .int .i64 a1_2, .int .i64 a1_3, .int .i64 a1_4, .string a1_5, .string a1_6, .string a1_7, .string a1_8, .int .i64 a1_9]] w fun e w' => e = .returned (.bool r) ∧ Below w.heap.size w w' := by
  have hu45 := Tryd.underlying45
  have HB := Aside0.mk (Below.refl w.heap.size w)
  have H : (some (a0_0 == a1_0 && (a0_1 == a1_1 && (a0_2 == a1_2 && (a0_3 == a1_3 && (a0_4 == a1_4 && (a0_5.toList == a1_5.toList && (a0_6.toList == a1_6.toList && (a0_7.toList == a1_7.toList && (a0_8.toList == a1_8.toList)))))))))) = some r := h
  clear h
  obtain rfl := Option.some.inj H
  go_enter Tryd.func51, Tryd.ntmps51
  go_wp2_with (first | ((with_reducible refine gate_dst (N := 2) rfl ?_); refine box_event ?hg (N := 2) ?hd (cs := #[.int .i64 a0_0, .int .i64 a0_1, .int .i64 a0_2, .int .i64 a0_3, .int .i64 a0_4, .string a0_5, .string a0_6, .string a0_7, .string a0_8, .int .i64 a0_9]) (t := 45) ?hr ?_; (case hd => rfl); (case hg => rfl); (case hr => first | (go_simp; done) | (go_simp; rfl)); intro gb312 hg w3 hbox hb; have n0_ := Aside0.mk (below_step (by repeat (first | (with_reducible first | exact HB.out | apply below_alloc | apply pw_below_drewN | apply below_drew1) | exact HB.out)) hb); have n1_ := Aside0.mk (hbox); have n2_ := Aside0.mk ((by rw [hg]; exact (below_size (by repeat (first | (with_reducible first | exact HB.out | apply below_alloc | apply pw_below_drewN | apply below_drew1) | exact HB.out))) : w.heap.size ≤ gb312)); have n3_ := Aside0.mk ((by rw [hg]; exact (below_size (by repeat (first | (with_reducible first | exact HB.out | apply below_alloc | apply pw_below_drewN | apply below_drew1) | exact HB.out))) : w.heap.size ≤ gb312)); clear HB; have HB := n0_; have BK312 := n1_; have GW312 := n2_; have GE312 := n3_; clear n0_ n1_ n2_ n3_; clear hb hbox hg) | ((with_reducible refine gate_dst (N := 3) rfl ?_); refine box_event ?hg (N := 3) ?hd (cs := #[.int .i64 a1_0, .int .i64 a1_1, .int .i64 a1_2, .int .i64 a1_3, .int .i64 a1_4, .string a1_5, .string a1_6, .string a1_7, .string a1_8, .int .i64 a1_9]) (t := 45) ?hr ?_; (case hd => rfl); (case hg => rfl); (case hr => first | (go_simp; done) | (go_simp; rfl)); intro gb313 hg w4 hbox hb; have n0_ := Aside0.mk (blk_below (g := gb312) (o := .cells #[.int .i64 a0_0, .int .i64 a0_1, .int .i64 a0_2, .int .i64 a0_3, .int .i64 a0_4, .string a0_5, .string a0_6, .string a0_7, .string a0_8, .int .i64 a0_9] 45 (0, 0)) (by (with_reducible repeat (first | refine blk_drewN ?_ _ | refine blk_drew ?_ | refine blk_alloc ?_ _)); exact BK312.out) hb); have n1_ := Aside0.mk (below_step (by repeat (first | (with_reducible first | exact HB.out | apply below_alloc | apply pw_below_drewN | apply below_drew1 | refine below_set ?_ GE312.out) | exact HB.out)) hb); have n2_ := Aside0.mk (hbox); have n3_ := Aside0.mk ((by rw [hg]; exact (below_size (by repeat (first | (with_reducible first | exact HB.out | apply below_alloc | apply pw_below_drewN | apply below_drew1 | refine below_set ?_ GE312.out) | exact HB.out))) : w.heap.size ≤ gb313)); have n4_ := Aside0.mk ((by rw [hg]; exact (below_size (by repeat (first | (with_reducible first | exact HB.out | apply below_alloc | apply pw_below_drewN | apply below_drew1 | refine below_set ?_ GE312.out) | exact HB.out))) : w.heap.size ≤ gb313)); have n5_ := Aside0.mk ((by rw [hg]; exact Nat.ne_of_lt (blk_lt (g := gb312) (o := .cells #[.int .i64 a0_0, .int .i64 a0_1, .int .i64 a0_2, .int .i64 a0_3, .int .i64 a0_4, .string a0_5, .string a0_6, .string a0_7, .string a0_8, .int .i64 a0_9] 45 (0, 0)) (by (with_reducible repeat (first | refine blk_drewN ?_ _ | refine blk_drew ?_ | refine blk_alloc ?_ _)); exact BK312.out)) : gb312 ≠ gb313)); have n6_ := Aside0.mk ((by rw [hg]; exact Nat.ne_of_gt (blk_lt (g := gb312) (o := .cells #[.int .i64 a0_0, .int .i64 a0_1, .int .i64 a0_2, .int .i64 a0_3, .int .i64 a0_4, .string a0_5, .string a0_6, .string a0_7, .string a0_8, .int .i64 a0_9] 45 (0, 0)) (by (with_reducible repeat (first | refine blk_drewN ?_ _ | refine blk_drew ?_ | refine blk_alloc ?_ _)); exact BK312.out)) : gb313 ≠ gb312)); clear BK312; clear HB; have BK312 := n0_; have HB := n1_; have BK313 := n2_; have GW313 := n3_; have GE313 := n4_; have NB312_313 := n5_; have NB313_312 := n6_; clear n0_ n1_ n2_ n3_ n4_ n5_ n6_; clear hb hbox hg; have hnb5 := NB312_313.out; have hnc5 := NB313_312.out; have hcz6_0 : w4.cell? ⟨gb312, 0, none⟩ = some (.int .i64 a0_0) := (blk_cell BK312.out 0).trans rfl; have hcz6_1 : w4.cell? ⟨gb312, 1, none⟩ = some (.int .i64 a0_1) := (blk_cell BK312.out 1).trans rfl; have hcz6_2 : w4.cell? ⟨gb312, 2, none⟩ = some (.int .i64 a0_2) := (blk_cell BK312.out 2).trans rfl; have hcz6_3 : w4.cell? ⟨gb312, 3, none⟩ = some (.int .i64 a0_3) := (blk_cell BK312.out 3).trans rfl; have hcz6_4 : w4.cell? ⟨gb312, 4, none⟩ = some (.int .i64 a0_4) := (blk_cell BK312.out 4).trans rfl; have hcz6_5 : w4.cell? ⟨gb312, 5, none⟩ = some (.string a0_5) := (blk_cell BK312.out 5).trans rfl; have hcz6_6 : w4.cell? ⟨gb312, 6, none⟩ = some (.string a0_6) := (blk_cell BK312.out 6).trans rfl; have hcz6_7 : w4.cell? ⟨gb312, 7, none⟩ = some (.string a0_7) := (blk_cell BK312.out 7).trans rfl; have hcz6_8 : w4.cell? ⟨gb312, 8, none⟩ = some (.string a0_8) := (blk_cell BK312.out 8).trans rfl; have hcz6_9 : w4.cell? ⟨gb312, 9, none⟩ = some (.int .i64 a0_9) := (blk_cell BK312.out 9).trans rfl; have hfz6_0 := blk_frozen BK312.out 0; have hfz6_1 := blk_frozen BK312.out 1; have hfz6_2 := blk_frozen BK312.out 2; have hfz6_3 := blk_frozen BK312.out 3; have hfz6_4 := blk_frozen BK312.out 4; have hfz6_5 := blk_frozen BK312.out 5; have hfz6_6 := blk_frozen BK312.out 6; have hfz6_7 := blk_frozen BK312.out 7; have hfz6_8 := blk_frozen BK312.out 8; have hfz6_9 := blk_frozen BK312.out 9; have hcz7_0 : w4.cell? ⟨gb313, 0, none⟩ = some (.int .i64 a1_0) := (blk_cell BK313.out 0).trans rfl; have hcz7_1 : w4.cell? ⟨gb313, 1, none⟩ = some (.int .i64 a1_1) := (blk_cell BK313.out 1).trans rfl; have hcz7_2 : w4.cell? ⟨gb313, 2, none⟩ = some (.int .i64 a1_2) := (blk_cell BK313.out 2).trans rfl; have hcz7_3 : w4.cell? ⟨gb313, 3, none⟩ = some (.int .i64 a1_3) := (blk_cell BK313.out 3).trans rfl; have hcz7_4 : w4.cell? ⟨gb313, 4, none⟩ = some (.int .i64 a1_4) := (blk_cell BK313.out 4).trans rfl; have hcz7_5 : w4.cell? ⟨gb313, 5, none⟩ = some (.string a1_5) := (blk_cell BK313.out 5).trans rfl; have hcz7_6 : w4.cell? ⟨gb313, 6, none⟩ = some (.string a1_6) := (blk_cell BK313.out 6).trans rfl; have hcz7_7 : w4.cell? ⟨gb313, 7, none⟩ = some (.string a1_7) := (blk_cell BK313.out 7).trans rfl; have hcz7_8 : w4.cell? ⟨gb313, 8, none⟩ = some (.string a1_8) := (blk_cell BK313.out 8).trans rfl; have hcz7_9 : w4.cell? ⟨gb313, 9, none⟩ = some (.int .i64 a1_9) := (blk_cell BK313.out 9).trans rfl; have hfz7_0 := blk_frozen BK313.out 0; have hfz7_1 := blk_frozen BK313.out 1; have hfz7_2 := blk_frozen BK313.out 2; have hfz7_3 := blk_frozen BK313.out 3; have hfz7_4 := blk_frozen BK313.out 4; have hfz7_5 := blk_frozen BK313.out 5; have hfz7_6 := blk_frozen BK313.out 6; have hfz7_7 := blk_frozen BK313.out 7; have hfz7_8 := blk_frozen BK313.out 8; have hfz7_9 := blk_frozen BK313.out 9))
  go_ret
  exact ⟨by first | rfl | (simp [errW_none, errW_some] <;> rfl) | (simp [*, errW_none, errW_some] <;> rfl), by repeat (first | (with_reducible first | exact HB.out | apply below_alloc | apply pw_below_drewN | apply below_drew1 | refine below_set ?_ GE312.out | refine below_set ?_ GE313.out) | exact HB.out)⟩

end Go.Proofs.YtnogfhhfklkbiaaDoor.H

namespace Go.Proofs.YtnogfhhfklkbiaaDoor.H
open Go.RowKit Go.Proofs.YtnogfhhfklkbiaaDoorW.PrintWords Go.Proofs.YtnogfhhfklkbiaaDoorW.PrintLast Go.Proofs.YtnogfhhfklkbiaaDoorW.PrintMore
attribute [local go_sem] max2_int min2_int max_two min_two max_three min_three max_four min_four   -- for this text's walks alone
set_option linter.unusedVariables false
set_option linter.unusedSimpArgs false

/-! ### slices_EqualFunc_Node: function 50 -/
-- for slices.EqualFunc[[]trammel/api.Node,[]trammel/api.Node,trammel/api.Node,trammel/api.Node]
/-- Are two nodes the same but for where they begin? -/
def sameNode (x y : S45) : Bool := x.f0 == y.f0 && (x.f1 == y.f1 && (x.f2 == y.f2 && (x.f3 == y.f3 && (x.f4 == y.f4 && (x.f5.toList == y.f5.toList && (x.f6.toList == y.f6.toList && (x.f7.toList == y.f7.toList && (x.f8.toList == y.f8.toList))))))))
def sameNodes : List S45 → List S45 → Bool
  | x :: xs, y :: ys => sameNode x y && sameNodes xs ys
  | [], [] => true
  | _, _ => false
theorem sameNodes_len : ∀ xs ys, xs.length ≠ ys.length → sameNodes xs ys = false
  | x :: xs, y :: ys, h => by
    rw [sameNodes, sameNodes_len xs ys (by simpa using h), Bool.and_false]
  | [], [], h => by simp at h
  | [], y :: ys, _ => rfl
  | x :: xs, [], _ => rfl
theorem hr_dropC {α : Type} {l : List α} {i : Nat} {c : α} (h : l[i]? = some c) : c :: l.drop (i + 1) = l.drop i := by
  obtain ⟨hi, rfl⟩ := List.getElem?_eq_some_iff.1 h
  exact (List.drop_eq_getElem_cons hi).symm
theorem rd_get (l : List S45) (i : Nat) (h : i < l.length) : l[i]? = some (rd_T45 l i) := by
  rw [List.getElem?_eq_getElem h, rd_T45, Int.toNat_natCast, List.getD_eq_getElem?_getD, List.getElem?_eq_getElem h]
  rfl
set_option maxRecDepth 100000 in
set_option maxHeartbeats 8000000 in
theorem equalFunc_calls (A0 : Option Addr) (c0 : Nat) (l0 : List S45) (A1 : Option Addr) (c1 : Nat) (l1 : List S45) (w : World) (hr0 : Kd.C k45 w A0 l0.length l0) (hr1 : Kd.C k45 w A1 l1.length l1) (hc0 : l0.length ≤ 9223372036854775807) :
    Calls Tryd.prog 50 #[.slice A0 l0.length c0, .slice A1 l1.length c1, .func (.func 51) #[] #[]] w fun e w' => e = .returned (.bool (sameNodes l0 l1)) ∧ Below w.heap.size w w' := by
  have HC0 := Aside0.mk hr0
  have HC1 := Aside0.mk hr1
  clear hr0 hr1
  by_cases hl : l0.length = l1.length
  · have b1 : ((l0.length : Int) != (l1.length : Int)) = false := by rw [hl]; simp
    have HL := Aside0.mk hl
    clear hl
    go_enter Tryd.func50, Tryd.ntmps50
    go_wp2_with fail
    go_loopw [17] (fun v17 wr => ∃ (i : Nat), v17 = .int .i64 i ∧ i ≤ l0.length ∧ Aside0 (sameNodes (l0.drop i) (l1.drop i) = sameNodes l0 l1) ∧ Aside0 (Below w.heap.size w wr)) (fun v17 _ => l0.length - (intOf v17).toNat)
    case atStart => exact ⟨0, rfl, Nat.zero_le _, ⟨rfl⟩, ⟨Below.refl _ _⟩⟩
    case round =>
      obtain ⟨i, rfl, hi, HG, HB⟩ := hrel
      by_cases hlt : i < l0.length
      · have hlt1 : i < l1.length := by have := HL.out; omega
        obtain ⟨ad, e157, hx0, hx1, hx2, hx3, hx4, hx5, hx6, hx7, hx8, hx9⟩ := at_T45 (Kd.C_below HC0.out HB.out) i (by omega) (by omega)
        cases e157
        obtain ⟨ad1, e158, hy0, hy1, hy2, hy3, hy4, hy5, hy6, hy7, hy8, hy9⟩ := at_T45 (Kd.C_below HC1.out HB.out) i (by omega) (by omega)
        cases e158
        have hg := HG.out
        rw [← hr_dropC (rd_get l0 i hlt), ← hr_dropC (rd_get l1 i hlt1), sameNodes] at hg
        rw [Int.toNat_natCast] at hx0 hx1 hx2 hx3 hx4 hx5 hx6 hx7 hx8 hx9 hy0 hy1 hy2 hy3 hy4 hy5 hy6 hy7 hy8 hy9
        generalize rd_T45 l0 i = x at *
        generalize rd_T45 l1 i = y at *
        have HG2 := Aside0.mk hg
        have ha : (ad.add (i * 10)).block < wr.heap.size := World.block_lt_of_cell? wr (ad.add (i * 10)) hx0
        have hb : (ad1.add (i * 10)).block < wr.heap.size := World.block_lt_of_cell? wr (ad1.add (i * 10)) hy0
        have HS := Aside0.mk (show tree_Same_1.f x.f0 x.f1 x.f2 x.f3 x.f4 x.f5 x.f6 x.f7 x.f8 x.f9 y.f0 y.f1 y.f2 y.f3 y.f4 y.f5 y.f6 y.f7 y.f8 y.f9 = some (sameNode x y) from rfl)
        clear hg HG
        cases hs : sameNode x y
        · rw [hs] at HS HG2
          have hr : sameNodes l0 l1 = false := by rw [← HG2.out]; rfl
          have HR := Aside0.mk hr
          clear hs hr HG2
          go_wp2_with (go_at_call 51; (with_reducible refine (tree_Same_1.calls _ _ _ _ _ _ _ _ _ _ _ _ _ _ _ _ _ _ _ _ false _ HS.out).mono ?_); rintro e w3 ⟨rfl, hb3⟩; have HB3 := Aside0.mk hb3; clear hb3)
          go_ret
          exact ⟨by rw [HR.out]; rfl, HB.out.trans ((Below.alloc (Below.alloc (Below.refl _ _) HB.out.size _) (by simp; have := HB.out.size; omega) _).trans (HB3.out.mono (by simp; have := HB.out.size; omega)))⟩
        · rw [hs] at HS HG2
          clear hs
          go_wp2_with (go_at_call 51; (with_reducible refine (tree_Same_1.calls _ _ _ _ _ _ _ _ _ _ _ _ _ _ _ _ _ _ _ _ true _ HS.out).mono ?_); rintro e w3 ⟨rfl, hb3⟩; have HB3 := Aside0.mk hb3; clear hb3)
          go_roundw
          case rel => exact ⟨i + 1, by go_num, by omega, ⟨HG2.out⟩, ⟨HB.out.trans ((Below.alloc (Below.alloc (Below.refl _ _) HB.out.size _) (by simp; have := HB.out.size; omega) _).trans (HB3.out.mono (by simp; have := HB.out.size; omega)))⟩⟩
          case measure => simp [intOf]; omega
      · have hg := HG.out
        have := HL.out
        rw [List.drop_eq_nil_of_le (by omega), List.drop_eq_nil_of_le (by omega)] at hg
        have hr : sameNodes l0 l1 = true := by rw [← hg]; rfl
        have HR := Aside0.mk hr
        clear hg hr HG this
        go_wp2
        go_ret
        exact ⟨by rw [HR.out]; rfl, HB.out⟩
  · have b1 : ((l0.length : Int) != (l1.length : Int)) = true := by rw [bne_iff_ne]; omega
    rw [sameNodes_len _ _ hl]
    clear hl
    go_enter Tryd.func50, Tryd.ntmps50
    go_wp2
    go_ret
    exact ⟨rfl, Below.refl _ _⟩


end Go.Proofs.YtnogfhhfklkbiaaDoor.H

namespace Go.Proofs.YtnogfhhfklkbiaaDoor.H
open Go.RowKit Go.Proofs.YtnogfhhfklkbiaaDoorW.PrintWords Go.Proofs.YtnogfhhfklkbiaaDoorW.PrintLast Go.Proofs.YtnogfhhfklkbiaaDoorW.PrintMore
attribute [local go_sem] max2_int min2_int max_two min_two max_three min_three max_four min_four   -- for this text's walks alone
set_option linter.unusedVariables false
set_option linter.unusedSimpArgs false

/-! ### tree_Same: function 22 -/
-- making
def tree_Same.f (l0 l1 : List S45) : Option Bool := if l0.length ≤ 9223372036854775807 then some (sameNodes l0 l1) else none
set_option maxRecDepth 100000 in
set_option maxHeartbeats 8000000 in
theorem tree_Same.calls (A0 : Option Addr) (c0 : Nat) (l0 : List (S45)) (A1 : Option Addr) (c1 : Nat) (l1 : List (S45)) (r : Bool) (w : World) (hr0 : Kd.C k45 w A0 l0.length l0) (hc0 : l0.length ≤ c0) (hr1 : Kd.C k45 w A1 l1.length l1) (hc1 : l1.length ≤ c1) (h : tree_Same.f l0 l1 = some r) :
    Calls Tryd.prog 22 #[.slice A0 l0.length c0, .slice A1 l1.length c1] w fun e w' => e = .returned (.bool r) ∧ Below w.heap.size w w' := by
  unfold tree_Same.f at h
  split at h
  · rename_i hl
    obtain rfl := Option.some.inj h
    have C := Aside0.mk (equalFunc_calls A0 c0 l0 A1 c1 l1 w hr0 hr1 hl)
    clear hr0 hr1 hc0 hc1 h
    go_enter Tryd.func22, Tryd.ntmps22
    go_wp2_with (go_at_call 50; refine C.out.mono ?_; rintro e w3 ⟨rfl, hb3⟩; have HB3 := Aside0.mk hb3; clear hb3)
    go_ret
    exact ⟨rfl, HB3.out⟩
  · cases h


end Go.Proofs.YtnogfhhfklkbiaaDoor.H
