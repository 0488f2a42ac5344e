/- Several texts in one: contracts of functions of the program, and what they lean on. In part written by a program of this session over the kit's print, in part by hand. -/
import Derived.Test.YtfcjpkkglffnmaaDoorYScopeIndex5
import Derived.Test.YtfcjpkkglffnmaaDoorYScopeIndex6
import Derived.Test.YtfcjpkkglffnmaaDoorYScopeIndex2
import Derived.Laws.BitsLemmas
import Derived.RowKit
set_option linter.unusedVariables false
set_option linter.unusedSimpArgs false
set_option maxHeartbeats 4000000
set_option maxRecDepth 100000
namespace Go.Proofs.YtfcjpkkglffnmaaDoor.H
open Go.RowKit Go.Proofs.YtfcjpkkglffnmaaDoorW.PrintWords Go.Proofs.YtfcjpkkglffnmaaDoorW.PrintLast Go.Proofs.YtfcjpkkglffnmaaDoorW.PrintMore
theorem trammellaw6_awake.is : trammellaw6_awake.f 1300 = some true := by
  unfold trammellaw6_awake.f
  simp only [res_Q 1300 (by decide), may_Q 1300 (by decide), same_Q6]
  decide +kernel
end Go.Proofs.YtfcjpkkglffnmaaDoor.H

namespace Go.Proofs.YtfcjpkkglffnmaaDoor.H
open Go.RowKit Go.Proofs.YtfcjpkkglffnmaaDoorW.PrintWords Go.Proofs.YtfcjpkkglffnmaaDoorW.PrintLast Go.Proofs.YtfcjpkkglffnmaaDoorW.PrintMore
attribute [local go_sem] max2_int min2_int max_two min_two max_three min_three max_four min_four
set_option linter.unusedVariables false
set_option linter.unusedSimpArgs false
mutual
def trammellaw6_ScopeIndex.j1 : Nat → ByteArray → List (S34) → List ByteArray → Option (Bool)
  | 0, _, _, _ => none
  | k + 1, x5, x6, x7 => trammellaw6_ScopeIndex.l1 k x5 x6 x7 (-1) (wrap64 ((x7.length : Int) - 1))
def trammellaw6_ScopeIndex.l1 : Nat → ByteArray → List (S34) → List ByteArray → Int → Int → Option (Bool)
  | 0, _, _, _, _, _ => none
  | k + 1, x5, x6, x7, x10, x11 => if x11 ≥ 0 then (if 0 ≤ x11 then (if x11 < (x7.length : Int) then (if (rdOf ByteArray.empty x7 x11).toList = x5.toList then (trammellaw6_ScopeIndex.l1 k x5 x6 x7 x11 (wrap64 (x11 - 1))) else (trammellaw6_ScopeIndex.l1 k x5 x6 x7 x10 (wrap64 (x11 - 1)))) else (none)) else (none)) else ((scope_Resolve.f k ([] : List (S45)) x6).bind fun bt311 => (if x10 < 0 then ((trammellaw0_Num.f bt311.2.2.2).bind fun t320 => (if t320 = 601 then (if bt311.2.2.1 = 9 then (some ((bt311.2.1.length : Int) == 0)) else (some false)) else (some false))) else ((trammellaw0_Num.f bt311.2.2.2).bind fun t321 => (if t321 = 0 then (if (bt311.2.1.length : Int) = (x6.length : Int) then (if 0 < (bt311.2.1.length : Int) then (some (((rd_T34 bt311.2.1 0).f4) == x10)) else (none)) else (some false)) else (some false)))))
def trammellaw6_ScopeIndex.l0 : Nat → List Int → ByteArray → List (S34) → List ByteArray → Int → Option (Bool)
  | 0, _, _, _, _, _ => none
  | k + 1, x0, x5, x6, x7, x8 => if x8 < (x0.length : Int) then (if x8 < 20 then (if 0 ≤ x8 then ((some (([(wrap64 (97 + (Go.bits .and .i64 (rd x0 x8) 3))) % 256] : List Int) : List Int)).bind fun y301 => (if x7.length < 8796093022208 then (if x6.length < 1256584717458 then (trammellaw6_ScopeIndex.l0 k x0 x5 (x6 ++ [(⟨3, x8, 0, 0, 0, (⟨#[]⟩ : ByteArray), strOfNums y301, (⟨#[]⟩ : ByteArray), (⟨#[]⟩ : ByteArray), 0⟩ : S34)]) (x7 ++ [strOfNums y301]) (wrap64 (x8 + 1))) else (none)) else (none))) else (none)) else (trammellaw6_ScopeIndex.j1 k x5 x6 x7)) else (trammellaw6_ScopeIndex.j1 k x5 x6 x7)
end
def trammellaw6_ScopeIndex.f (k : Nat) (l0 : List Int) (a1 : Int) : Option (Bool) := (trammellaw6_awake.f k).bind fun t293 => (if t293 = true then ((some (([(wrap64 (97 + (Go.bits .and .i64 a1 3))) % 256] : List Int) : List Int)).bind fun y294 => (trammellaw6_ScopeIndex.l0 k l0 (strOfNums y294) (([(⟨0, 0, 0, 0, 0, strOfNums y294, (⟨#[]⟩ : ByteArray), (⟨#[]⟩ : ByteArray), (⟨#[]⟩ : ByteArray), 9⟩ : S34)] : List (S34))) ([] : List ByteArray) 0)) else (some false))
set_option maxHeartbeats 8000000 in
set_option maxRecDepth 100000 in
theorem trammellaw6_ScopeIndex.callsT (k : Nat) (A0 : Option Addr) (c0 : Nat) (l0 : List Int) (a1 : Int) (r : Bool) (w : World) (hr0 : Kd.C (Kd.int .i64) w A0 l0.length l0) (hc0 : l0.length ≤ c0) (htrue : r = true) (h : trammellaw6_ScopeIndex.f k l0 a1 = some r) (hG : Err.ErrTy w) :
    Calls Tryd.prog 5 #[.slice A0 l0.length c0, .int .i64 a1] w fun e w' => e = .returned (.bool r) ∧ Below w.heap.size w w' := by
  have HG := Aside0.mk hG
  clear hG
  have HTRUE := Aside0.mk htrue
  clear htrue
  have hu34 := Tryd.underlying34
  have hu25 := Tryd.underlying25
  have HR0 := Aside0.mk hr0
  have HC0 := Aside0.mk hc0
  clear hr0 hc0
  have HB := Aside0.mk (Below.refl w.heap.size w)
  have H : ((trammellaw6_awake.f k).bind fun t293 => (if t293 = true then ((some (([(wrap64 (97 + (Go.bits .and .i64 a1 3))) % 256] : List Int) : List Int)).bind fun y294 => (trammellaw6_ScopeIndex.l0 k l0 (strOfNums y294) (([(⟨0, 0, 0, 0, 0, strOfNums y294, (⟨#[]⟩ : ByteArray), (⟨#[]⟩ : ByteArray), (⟨#[]⟩ : ByteArray), 9⟩ : S34)] : List (S34))) ([] : List ByteArray) 0)) else (some false))) = some r := h
  clear h
  replace H := Option.bind_eq_some_iff.mp H
  obtain ⟨t293, A30, H⟩ := H
  replace H : (if t293 = true then ((some (([(wrap64 (97 + (Go.bits .and .i64 a1 3))) % 256] : List Int) : List Int)).bind fun y294 => (trammellaw6_ScopeIndex.l0 k l0 (strOfNums y294) (([(⟨0, 0, 0, 0, 0, strOfNums y294, (⟨#[]⟩ : ByteArray), (⟨#[]⟩ : ByteArray), (⟨#[]⟩ : ByteArray), 9⟩ : S34)] : List (S34))) ([] : List ByteArray) 0)) else (some false)) = some r := H
  have A3 := Aside0.mk A30
  clear A30
  by_cases c4 : t293 = true
  · subst c4
    have H1 : ((some (([(wrap64 (97 + (Go.bits .and .i64 a1 3))) % 256] : List Int) : List Int)).bind fun y294 => (trammellaw6_ScopeIndex.l0 k l0 (strOfNums y294) (([(⟨0, 0, 0, 0, 0, strOfNums y294, (⟨#[]⟩ : ByteArray), (⟨#[]⟩ : ByteArray), (⟨#[]⟩ : ByteArray), 9⟩ : S34)] : List (S34))) ([] : List ByteArray) 0)) = some r := by rw [if_pos rfl] at H; exact H
    clear H
    have H := H1
    clear H1
    obtain ⟨y294, hy294⟩ : ∃ y_ : List Int, y_ = (([(wrap64 (97 + (Go.bits .and .i64 a1 3))) % 256] : List Int)) := ⟨_, rfl⟩
    replace H : (trammellaw6_ScopeIndex.l0 k l0 (strOfNums y294) (([(⟨0, 0, 0, 0, 0, strOfNums y294, (⟨#[]⟩ : ByteArray), (⟨#[]⟩ : ByteArray), (⟨#[]⟩ : ByteArray), 9⟩ : S34)] : List (S34))) ([] : List ByteArray) 0) = some r := by first | (rw [hy294]; with_reducible exact H) | (have H2_ := (Option.bind_some _ _).symm.trans H; rw [hy294]; with_reducible exact H2_) | (have H2_ := (Option.bind_some _ _).symm.trans H; with_reducible exact H2_) | with_reducible exact H | (rw [hy294]; exact H) | exact H
    have Ny294 := Aside0.mk hy294
    clear hy294
    obtain ⟨y297, hy297⟩ : ∃ y_ : List (S34), y_ = (([(⟨0, 0, 0, 0, 0, strOfNums y294, (⟨#[]⟩ : ByteArray), (⟨#[]⟩ : ByteArray), (⟨#[]⟩ : ByteArray), 9⟩ : S34)] : List (S34))) := ⟨_, rfl⟩
    replace H : (trammellaw6_ScopeIndex.l0 k l0 (strOfNums y294) y297 ([] : List ByteArray) 0) = some r := by first | (rw [hy297]; with_reducible exact H) | (have H2_ := (Option.bind_some _ _).symm.trans H; rw [hy297]; with_reducible exact H2_) | (have H2_ := (Option.bind_some _ _).symm.trans H; with_reducible exact H2_) | with_reducible exact H | (rw [hy297]; exact H) | exact H
    have Ny297 := Aside0.mk hy297
    clear hy297
    have HC5 := Aside0.mk H
    clear H
    go_enter Tryd.func5, Tryd.ntmps5
    go_upto_block 0 with (first | ((with_reducible refine gate_callee (f := 7) rfl ?_); refine goesL_ (some 15) rfl rfl Tryd.func7 (by kernel_rfl) rfl #[] rfl (by (try simp only [List.map_toArray, List.map_cons, List.map_nil]); first | done | rfl | (simp only [List.length_drop, List.length_take]; rfl)) ?_; (with_reducible refine (trammellaw6_awake.callsT k true _ rfl A3.out (HG.out.below HG.out.lt (by repeat (first | (with_reducible first | exact HB.out | apply below_alloc | apply pw_below_drewN | apply below_drew1 | refine below_set ?_ (Aside0.out (by assumption))) | exact HB.out)))).mono ?_); rintro e w6 ⟨rfl, hb⟩; refine ⟨_, rfl, ?_⟩; have n0_ := Aside0.mk (below_step (by repeat (first | (with_reducible first | exact HB.out | apply below_alloc | apply pw_below_drewN | apply below_drew1) | exact HB.out)) hb); clear HB; have HB := n0_; clear n0_; (try clear hb); (try clear hb2); (try clear hk); (try clear hi)) | ((with_reducible refine gate_dst (N := 21) rfl ?_); (try (refine gate_guard (by rfl) ?_; dsimp only)); refine Kd.R_lit (Kd.int .u8) _ 5 ?hg (N := 21) ?hd (xs := ([(wrap64 (97 + (Go.bits .and .i64 a1 3))) % 256] : List Int)) (inner := [.int .u8 ((wrap64 (97 + (Go.bits .and .i64 a1 3))) % 256)]) (ok := fun _ => True) (okp := fun _ => True) ?hr ?hp (fun _ hk => hk) trivial (Below.refl _ _) (Nat.le_refl _) (by simp) ?_; (case hd => rfl); (case hg => rfl); (case hr => first | (go_simp; done) | (go_simp; rfl)); (case hp => exact (Reps.one (show Kd.M (Kd.int .u8) _ _ _ ((wrap64 (97 + (Go.bits .and .i64 a1 3))) % 256) [.int .u8 ((wrap64 (97 + (Go.bits .and .i64 a1 3))) % 256)] from rfl) (Reps.none _ _))); intro v295 w7 ho8 hb hg_ hnew_; clear hg_ hnew_; (first | rw [← Ny294.out] at ho8 | (simp only [Int.reduceToNat] at ho8; rw [← Ny294.out] at ho8)); have n0_ := Aside0.mk (Kd.R_lower ho8 (below_size (by repeat (first | (with_reducible first | exact HB.out | apply below_alloc | apply pw_below_drewN | apply below_drew1) | exact HB.out)))); have n1_ := Aside0.mk (below_step (by repeat (first | (with_reducible first | exact HB.out | apply below_alloc | apply pw_below_drewN | apply below_drew1) | exact HB.out)) hb); clear HB; have HO296 := n0_; have HB := n1_; clear n0_ n1_; clear hb ho8; have hcv9 := own_string (P := Tryd.prog) Tryd.underlying39 Tryd.underlying5 Tryd.underlying9 (Kd.own_of_R HO296.out)) | ((with_reducible refine gate_dst (N := 25) rfl ?_); (try (refine gate_guard (by rfl) ?_; dsimp only)); refine Kd.R_lit k34 _ 34 ?hg (N := 25) ?hd (xs := ([(⟨0, 0, 0, 0, 0, strOfNums y294, (⟨#[]⟩ : ByteArray), (⟨#[]⟩ : ByteArray), (⟨#[]⟩ : ByteArray), 9⟩ : S34)] : List (S34))) (inner := [.int .i64 0, .int .i64 0, .int .i64 0, .int .i64 0, .int .i64 0, .string (strOfNums y294), .string (⟨#[]⟩ : ByteArray), .string (⟨#[]⟩ : ByteArray), .string (⟨#[]⟩ : ByteArray), .int .i64 9]) (ok := fun _ => True) (okp := fun _ => True) ?hr ?hp (fun _ hk => hk) trivial (Below.refl _ _) (Nat.le_refl _) (by simp) ?_; (case hd => rfl); (case hg => rfl); (case hr => first | (go_simp; done) | (go_simp; rfl)); (case hp => exact (Reps.c10 (show Kd.M k34 _ _ _ (⟨0, 0, 0, 0, 0, strOfNums y294, (⟨#[]⟩ : ByteArray), (⟨#[]⟩ : ByteArray), (⟨#[]⟩ : ByteArray), 9⟩ : S34) [.int .i64 0, .int .i64 0, .int .i64 0, .int .i64 0, .int .i64 0, .string (strOfNums y294), .string (⟨#[]⟩ : ByteArray), .string (⟨#[]⟩ : ByteArray), .string (⟨#[]⟩ : ByteArray), .int .i64 9] from (k34_mkM _ _ _ (⟨0, 0, 0, 0, 0, strOfNums y294, (⟨#[]⟩ : ByteArray), (⟨#[]⟩ : ByteArray), (⟨#[]⟩ : ByteArray), 9⟩ : S34) )) (Reps.none _ _))); intro v298 w10 ho11 hb hg_ hnew_; clear hg_ hnew_; (first | rw [← Ny297.out] at ho11 | (simp only [Int.reduceToNat] at ho11; rw [← Ny297.out] at ho11)); have n0_ := Aside0.mk (Kd.R_below (by (with_reducible repeat (first | apply Kd.R_alloc | apply Kd.R_drewN | apply Kd.R_drew)); exact HO296.out) hb); have n1_ := Aside0.mk (Kd.R_lower ho11 (below_size (by repeat (first | (with_reducible first | exact HB.out | apply below_alloc | apply pw_below_drewN | apply below_drew1) | exact HB.out)))); have n2_ := Aside0.mk (below_step (by repeat (first | (with_reducible first | exact HB.out | apply below_alloc | apply pw_below_drewN | apply below_drew1) | exact HB.out)) hb); clear HO296; clear HB; have HO296 := n0_; have HO299 := n1_; have HB := n2_; clear n0_ n1_ n2_; clear hb ho11))
    (try simp only [Act.put, List.setIfInBounds_toArray, List.set_cons_zero, List.set_cons_succ])
    go_cut [6, 7] (fun v6 v7 wc => ∃ (kq : Nat) (x6_4 : List (S34)) (x7_4 : List ByteArray), Aside0 (trammellaw6_ScopeIndex.j1 kq (strOfNums y294) x6_4 x7_4 = some r) ∧ Aside0 (kq ≤ k) ∧ Aside0 (Kd.R k34 34 wc w.heap.size (fun _ => True) v6 x6_4) ∧ Aside0 (Kd.R Kd.string 9 wc w.heap.size (fun _ => True) v7 x7_4) ∧ Aside0 (Below w.heap.size w wc))
    case first =>
      have H := HC5.out
      clear HC5
      have H' := Aside0.mk H
      clear H
      go_wp2
      go_loopg [6, 7, 8] k (fun kq v6 v7 v8 w' => ∃ (x6_1 : List (S34)) (x7_1 : List ByteArray) (x8_1 : Int), v8 = .int .i64 x8_1 ∧ Aside0 (trammellaw6_ScopeIndex.l0 kq l0 (strOfNums y294) x6_1 x7_1 x8_1 = some r) ∧ Aside0 (kq ≤ k) ∧ Aside0 (Kd.R k34 34 w' w.heap.size (fun _ => True) v6 x6_1) ∧ Aside0 (Kd.R Kd.string 9 w' w.heap.size (fun _ => True) v7 x7_1) ∧ Aside0 (Below w.heap.size w w'))
      case atStart => exact ⟨(y297), (([] : List ByteArray)), (0), (by first | rfl | (simp; done) | (simp [*]; done)), H', ⟨Nat.le_refl _⟩, ⟨by (with_reducible repeat (first | apply Kd.R_alloc | apply Kd.R_drewN | apply Kd.R_drew)); exact HO299.out⟩, ⟨by first | exact Kd.R_nil _ _ _ _ _ | exact Kd.N_nil _ _ _ _ _ | exact Kd.V_nil _ _ _ _ _ | exact Kd.Q_nil _ _ _ _ _ | exact Kd.S_nil _ _ _ _ _⟩, ⟨by repeat (first | (with_reducible first | exact HB.out | apply below_alloc | apply pw_below_drewN | apply below_drew1) | exact HB.out)⟩⟩
      case round =>
        clear H'
        try clear c1
        try clear p2
        try clear c4
        try clear c5
        try clear p6
        try clear c7
        try clear hcv9
        try clear c10
        obtain ⟨x6_1, x7_1, x8_1, rfl, HA, HK1, HO_6, HO_7, HB⟩ := hrel
        cases gk with
        | zero => exact absurd HA.out (by simp [trammellaw6_ScopeIndex.l0])
        | succ k1 =>
          have H := HA.out
          clear HA
          simp only [trammellaw6_ScopeIndex.l0] at H
          by_cases c12 : x8_1 < (l0.length : Int)
          · rw [if_pos c12] at H
            have c12b0 : decide (x8_1 < (l0.length : Int)) = true := decide_eq_true c12
            clear c12
            (first | rw [c12b0] | (simp only [i64_w, i32_w]; rw [c12b0]) | skip)
            by_cases c13 : x8_1 < 20
            · rw [if_pos c13] at H
              have c13b0 : decide (x8_1 < 20) = true := decide_eq_true c13
              clear c13
              by_cases c14 : 0 ≤ x8_1
              · rw [if_pos c14] at H
                have c14b0 : decide (0 ≤ x8_1) = true := decide_eq_true c14
                clear c14
                obtain ⟨y301, hy301⟩ : ∃ y_ : List Int, y_ = (([(wrap64 (97 + (Go.bits .and .i64 (rd l0 x8_1) 3))) % 256] : List Int)) := ⟨_, rfl⟩
                replace H : (if x7_1.length < 8796093022208 then (if x6_1.length < 1256584717458 then (trammellaw6_ScopeIndex.l0 k1 l0 (strOfNums y294) (x6_1 ++ [(⟨3, x8_1, 0, 0, 0, (⟨#[]⟩ : ByteArray), strOfNums y301, (⟨#[]⟩ : ByteArray), (⟨#[]⟩ : ByteArray), 0⟩ : S34)]) (x7_1 ++ [strOfNums y301]) (wrap64 (x8_1 + 1))) else (none)) else (none)) = some r := by first | (rw [hy301]; with_reducible exact H) | (have H2_ := (Option.bind_some _ _).symm.trans H; rw [hy301]; with_reducible exact H2_) | (have H2_ := (Option.bind_some _ _).symm.trans H; with_reducible exact H2_) | with_reducible exact H | (rw [hy301]; exact H) | exact H
                have Ny301 := Aside0.mk hy301
                clear hy301
                by_cases c15 : x7_1.length < 8796093022208
                · rw [if_pos c15] at H
                  have LMc15 := Aside0.mk c15
                  clear c15
                  obtain ⟨y304, hy304⟩ : ∃ y_ : List ByteArray, y_ = (x7_1 ++ [strOfNums y301]) := ⟨_, rfl⟩
                  replace H : (if x6_1.length < 1256584717458 then (trammellaw6_ScopeIndex.l0 k1 l0 (strOfNums y294) (x6_1 ++ [(⟨3, x8_1, 0, 0, 0, (⟨#[]⟩ : ByteArray), strOfNums y301, (⟨#[]⟩ : ByteArray), (⟨#[]⟩ : ByteArray), 0⟩ : S34)]) y304 (wrap64 (x8_1 + 1))) else (none)) = some r := by first | (rw [hy304]; with_reducible exact H) | (have H2_ := (Option.bind_some _ _).symm.trans H; rw [hy304]; with_reducible exact H2_) | (have H2_ := (Option.bind_some _ _).symm.trans H; with_reducible exact H2_) | with_reducible exact H | (rw [hy304]; exact H) | exact H
                  have Ny304 := Aside0.mk hy304
                  clear hy304
                  by_cases c16 : x6_1.length < 1256584717458
                  · rw [if_pos c16] at H
                    have LMc16 := Aside0.mk c16
                    clear c16
                    obtain ⟨y307, hy307⟩ : ∃ y_ : List (S34), y_ = (x6_1 ++ [(⟨3, x8_1, 0, 0, 0, (⟨#[]⟩ : ByteArray), strOfNums y301, (⟨#[]⟩ : ByteArray), (⟨#[]⟩ : ByteArray), 0⟩ : S34)]) := ⟨_, rfl⟩
                    replace H : (trammellaw6_ScopeIndex.l0 k1 l0 (strOfNums y294) y307 y304 (wrap64 (x8_1 + 1))) = some r := by first | (rw [hy307]; with_reducible exact H) | (have H2_ := (Option.bind_some _ _).symm.trans H; rw [hy307]; with_reducible exact H2_) | (have H2_ := (Option.bind_some _ _).symm.trans H; with_reducible exact H2_) | with_reducible exact H | (rw [hy307]; exact H) | exact H
                    have Ny307 := Aside0.mk hy307
                    clear hy307
                    have H' := Aside0.mk H
                    clear H
                    have p300 : 0 ≤ (x8_1 : Int) := of_decide_eq_true (by first | (with_reducible assumption) | assumption)
                    have q300 : x8_1 < (l0.length : Int) := of_decide_eq_true (by first | (with_reducible assumption) | assumption)
                    obtain ⟨ad300, e300, hx300_0⟩ := Kd.at_int HR0.out x8_1 p300 q300
                    cases e300
                    replace hx300_0 := (HB.out.cell (World.block_lt_of_cell? w _ hx300_0)).trans hx300_0
                    replace p300 := eq_true p300
                    replace q300 := eq_true q300
                    go_wp2_with (first | ((with_reducible refine gate_dst (N := 43) rfl ?_); (try (refine gate_guard (by rfl) ?_; dsimp only)); refine Kd.R_lit (Kd.int .u8) _ 5 ?hg (N := 43) ?hd (xs := ([(wrap64 (97 + (Go.bits .and .i64 (rd l0 x8_1) 3))) % 256] : List Int)) (inner := [.int .u8 ((wrap64 (97 + (Go.bits .and .i64 (rd l0 x8_1) 3))) % 256)]) (ok := fun _ => True) (okp := fun _ => True) ?hr ?hp (fun _ hk => hk) trivial (Below.refl _ _) (Nat.le_refl _) (by simp) ?_; (case hd => rfl); (case hg => rfl); (case hr => first | (go_simp; done) | (go_simp; rfl)); (case hp => exact (Reps.one (show Kd.M (Kd.int .u8) _ _ _ ((wrap64 (97 + (Go.bits .and .i64 (rd l0 x8_1) 3))) % 256) [.int .u8 ((wrap64 (97 + (Go.bits .and .i64 (rd l0 x8_1) 3))) % 256)] from rfl) (Reps.none _ _))); intro v302 w17 ho18 hb hg_ hnew_; clear hg_ hnew_; (first | rw [← Ny301.out] at ho18 | (simp only [Int.reduceToNat] at ho18; rw [← Ny301.out] at ho18)); have n0_ := Aside0.mk (Kd.R_below (by (with_reducible repeat (first | apply Kd.R_alloc | apply Kd.R_drewN | apply Kd.R_drew)); exact HO_6.out) hb); have n1_ := Aside0.mk (Kd.R_below (by (with_reducible repeat (first | apply Kd.R_alloc | apply Kd.R_drewN | apply Kd.R_drew)); exact HO_7.out) hb); have n2_ := Aside0.mk (Kd.R_lower ho18 (below_size (by repeat (first | (with_reducible first | exact HB.out | apply below_alloc | apply pw_below_drewN | apply below_drew1) | exact HB.out)))); have n3_ := Aside0.mk (below_step (by repeat (first | (with_reducible first | exact HB.out | apply below_alloc | apply pw_below_drewN | apply below_drew1) | exact HB.out)) hb); clear HO_6; clear HO_7; clear HB; have HO_6 := n0_; have HO_7 := n1_; have HO303 := n2_; have HB := n3_; clear n0_ n1_ n2_ n3_; clear hb ho18; have hcv19 := own_string (P := Tryd.prog) Tryd.underlying39 Tryd.underlying5 Tryd.underlying9 (Kd.own_of_R HO303.out)) | ((with_reducible refine gate_builtin (b := .append) (xs := #[.tmp 45, .tmp 47]) rfl ?_); (try (refine gate_guard (by rfl) ?_; dsimp only)); at_builtin; refine Kd.R_append Kd.string (w0 := w) w.heap.size rfl (.tmp 45) (.tmp 47) 40 9 (.string ⟨#[]⟩) 16 rfl Tryd.underlying40 info9 rfl (by decide) (by omega) u7 x7_1 (strOfNums y301) [.string (strOfNums y301)] (fun _ => True) (fun _ => False) rfl rfl ?aP (fun _ hk => hk.elim) ?aF ?aO ?aB ?aS ?aL ?_; (case aP => exact rfl); (case aB => exact (by repeat (first | (with_reducible first | exact HB.out | apply below_alloc | apply pw_below_drewN | apply below_drew1) | exact HB.out))); (case aF => exact (fun _ _ => trivial)); (case aO => exact (by (with_reducible repeat (first | apply Kd.R_alloc | apply Kd.R_drewN | apply Kd.R_drew)); exact HO_7.out)); (case aS => exact (below_size (by repeat (first | (with_reducible first | exact HB.out | apply below_alloc | apply pw_below_drewN | apply below_drew1) | exact HB.out)))); (case aL => have := LMc15.out; omega); intro v305 w20 ho hb hg hat; rw [← Ny304.out] at ho; have n0_ := Aside0.mk (Kd.R_over' (by (with_reducible repeat (first | apply Kd.R_alloc | apply Kd.R_drewN | apply Kd.R_drew)); exact HO_6.out) (Kd.R_typed (by (with_reducible repeat (first | apply Kd.R_alloc | apply Kd.R_drewN | apply Kd.R_drew)); exact HO_7.out)) (by decide) hg); have n1_ := Aside0.mk (Kd.R_over' (by (with_reducible repeat (first | apply Kd.R_alloc | apply Kd.R_drewN | apply Kd.R_drew)); exact HO303.out) (Kd.R_typed (by (with_reducible repeat (first | apply Kd.R_alloc | apply Kd.R_drewN | apply Kd.R_drew)); exact HO_7.out)) (by decide) hg); have n2_ := Aside0.mk (hb); have n3_ := Aside0.mk (ho); clear HO_6; clear HO303; clear HB; clear HO_7; have HO_6 := n0_; have HO303 := n1_; have HB := n2_; have HO306 := n3_; clear n0_ n1_ n2_ n3_; clear ho hb hg hat) | ((with_reducible refine gate_builtin (b := .append) (xs := #[.tmp 49, .tmp 53]) rfl ?_); (try (refine gate_guard (by rfl) ?_; dsimp only)); at_builtin; refine Kd.R_append k34 (w0 := w) w.heap.size rfl (.tmp 49) (.tmp 53) 23 34 (.agg #[(.int .i64 0), (.int .i64 0), (.int .i64 0), (.int .i64 0), (.int .i64 0), (.string ⟨#[]⟩), (.string ⟨#[]⟩), (.string ⟨#[]⟩), (.string ⟨#[]⟩), (.int .i64 0)]) 112 rfl Tryd.underlying23 info34 rfl (by decide) (by omega) u6 x6_1 (⟨3, x8_1, 0, 0, 0, (⟨#[]⟩ : ByteArray), strOfNums y301, (⟨#[]⟩ : ByteArray), (⟨#[]⟩ : ByteArray), 0⟩ : S34) [.int .i64 3, .int .i64 x8_1, .int .i64 0, .int .i64 0, .int .i64 0, .string (⟨#[]⟩ : ByteArray), .string (strOfNums y301), .string (⟨#[]⟩ : ByteArray), .string (⟨#[]⟩ : ByteArray), .int .i64 0] (fun _ => True) (fun _ => False) rfl rfl ?aP (fun _ hk => hk.elim) ?aF ?aO ?aB ?aS ?aL ?_; (case aP => exact k34_mkM _ _ _ (⟨3, x8_1, 0, 0, 0, (⟨#[]⟩ : ByteArray), strOfNums y301, (⟨#[]⟩ : ByteArray), (⟨#[]⟩ : ByteArray), 0⟩ : S34)); (case aB => exact (by repeat (first | (with_reducible first | exact HB.out | apply below_alloc | apply pw_below_drewN | apply below_drew1) | exact HB.out))); (case aF => exact (fun _ _ => trivial)); (case aO => exact (by (with_reducible repeat (first | apply Kd.R_alloc | apply Kd.R_drewN | apply Kd.R_drew)); exact HO_6.out)); (case aS => exact (below_size (by repeat (first | (with_reducible first | exact HB.out | apply below_alloc | apply pw_below_drewN | apply below_drew1) | exact HB.out)))); (case aL => have := LMc16.out; omega); intro v308 w21 ho hb hg hat; rw [← Ny307.out] at ho; have n0_ := Aside0.mk (Kd.R_over' (by (with_reducible repeat (first | apply Kd.R_alloc | apply Kd.R_drewN | apply Kd.R_drew)); exact HO303.out) (Kd.R_typed (by (with_reducible repeat (first | apply Kd.R_alloc | apply Kd.R_drewN | apply Kd.R_drew)); exact HO_6.out)) (by decide) hg); have n1_ := Aside0.mk (Kd.R_over' (by (with_reducible repeat (first | apply Kd.R_alloc | apply Kd.R_drewN | apply Kd.R_drew)); exact HO306.out) (Kd.R_typed (by (with_reducible repeat (first | apply Kd.R_alloc | apply Kd.R_drewN | apply Kd.R_drew)); exact HO_6.out)) (by decide) hg); have n2_ := Aside0.mk (hb); have n3_ := Aside0.mk (ho); clear HO303; clear HO306; clear HB; clear HO_6; have HO303 := n0_; have HO306 := n1_; have HB := n2_; have HO309 := n3_; clear n0_ n1_ n2_ n3_; clear ho hb hg hat))
                    go_roundg k1
                    case measure => have := HK1.out; omega
                    case rel => exact ⟨(y307), (y304), (wrap64 (x8_1 + 1)), (by first | rfl | (simp; done) | (simp [*]; done)), H', ⟨by have := HK1.out; omega⟩, ⟨by (with_reducible repeat (first | apply Kd.R_alloc | apply Kd.R_drewN | apply Kd.R_drew)); exact HO309.out⟩, ⟨by (with_reducible repeat (first | apply Kd.R_alloc | apply Kd.R_drewN | apply Kd.R_drew)); exact HO306.out⟩, ⟨by repeat (first | (with_reducible first | exact HB.out | apply below_alloc | apply pw_below_drewN | apply below_drew1) | exact HB.out)⟩⟩
                  · rw [if_neg c16] at H
                    exact absurd H (by simp)
                · rw [if_neg c15] at H
                  exact absurd H (by simp)
              · rw [if_neg c14] at H
                exact absurd H (by simp)
            · rw [if_neg c13] at H
              have c13b0 : decide (x8_1 < 20) = false := decide_eq_false c13
              clear c13
              have H' := Aside0.mk H
              clear H
              go_wp2
              go_meet
              case rel => exact ⟨_, (x6_1), (x7_1), H', ⟨by have := HK1.out; first | omega | exact Nat.le_refl _⟩, ⟨by (with_reducible repeat (first | apply Kd.R_alloc | apply Kd.R_drewN | apply Kd.R_drew)); exact HO_6.out⟩, ⟨by (with_reducible repeat (first | apply Kd.R_alloc | apply Kd.R_drewN | apply Kd.R_drew)); exact HO_7.out⟩, ⟨by repeat (first | (with_reducible first | exact HB.out | apply below_alloc | apply pw_below_drewN | apply below_drew1) | exact HB.out)⟩⟩
          · rw [if_neg c12] at H
            have c12b0 : decide (x8_1 < (l0.length : Int)) = false := decide_eq_false c12
            clear c12
            (first | rw [c12b0] | (simp only [i64_w, i32_w]; rw [c12b0]) | skip)
            have H' := Aside0.mk H
            clear H
            go_wp2
            go_meet
            case rel => exact ⟨_, (x6_1), (x7_1), H', ⟨by have := HK1.out; first | omega | exact Nat.le_refl _⟩, ⟨by (with_reducible repeat (first | apply Kd.R_alloc | apply Kd.R_drewN | apply Kd.R_drew)); exact HO_6.out⟩, ⟨by (with_reducible repeat (first | apply Kd.R_alloc | apply Kd.R_drewN | apply Kd.R_drew)); exact HO_7.out⟩, ⟨by repeat (first | (with_reducible first | exact HB.out | apply below_alloc | apply pw_below_drewN | apply below_drew1) | exact HB.out)⟩⟩
    case rest =>
      clear HC5
      try clear c1
      try clear hcv1
      try clear p2
      try clear p3
      try clear q3
      try clear hx3
      try clear c4
      try clear c5
      try clear p6
      try clear c7
      try clear hcv9
      try clear c10
      try clear c12
      try clear c12b0
      try clear c13
      try clear c13b0
      try clear c14
      try clear c14b0
      try clear c15
      try clear c16
      try clear hcv19
      try clear hx300_0
      try clear p2
      try clear p300
      try clear p6
      try clear q300
      obtain ⟨kq, x6_4, x7_4, HA, HJ4, HO_6, HO_7, HB⟩ := hcut
      cases kq with
      | zero => exact absurd HA.out (by simp [trammellaw6_ScopeIndex.j1])
      | succ kj4 =>
        have H := HA.out
        clear HA
        simp only [trammellaw6_ScopeIndex.j1] at H
        have H' := Aside0.mk H
        clear H
        obtain ⟨Ao22, co22, eo22⟩ := Kd.R_slice HO_7.out
        subst eo22
        go_wp2
        go_loopg [10, 11] kj4 (fun kq v10 v11 w' => ∃ (x10_2 : Int) (x11_2 : Int), v10 = .int .i64 x10_2 ∧ v11 = .int .i64 x11_2 ∧ Aside0 (trammellaw6_ScopeIndex.l1 kq (strOfNums y294) x6_4 x7_4 x10_2 x11_2 = some r) ∧ Aside0 (kq ≤ kj4) ∧ Aside0 (Kd.R k34 34 w' w.heap.size (fun _ => True) u6 x6_4) ∧ Aside0 (Kd.R Kd.string 9 w' w.heap.size (fun _ => True) (.slice Ao22 x7_4.length co22) x7_4) ∧ Aside0 (Below w.heap.size w w'))
        case atStart => exact ⟨((-1)), (wrap64 ((x7_4.length : Int) - 1)), (by first | rfl | (simp; done) | (simp [*]; done)), (by first | rfl | (simp; done) | (simp [*]; done)), H', ⟨Nat.le_refl _⟩, ⟨by (with_reducible repeat (first | apply Kd.R_alloc | apply Kd.R_drewN | apply Kd.R_drew)); exact HO_6.out⟩, ⟨by (with_reducible repeat (first | apply Kd.R_alloc | apply Kd.R_drewN | apply Kd.R_drew)); exact HO_7.out⟩, ⟨by repeat (first | (with_reducible first | exact HB.out | apply below_alloc | apply pw_below_drewN | apply below_drew1) | exact HB.out)⟩⟩
        case round =>
          clear H'
          try clear c1
          try clear hcv1
          try clear p2
          try clear p3
          try clear q3
          try clear hx3
          try clear c4
          try clear c5
          try clear p6
          try clear c7
          try clear hcv9
          try clear c10
          try clear c12
          try clear c12b0
          try clear c13
          try clear c13b0
          try clear c14
          try clear c14b0
          try clear c15
          try clear c16
          try clear hcv19
          try clear hx300_0
          try clear p2
          try clear p3
          try clear p300
          try clear p6
          try clear q3
          try clear q300
          obtain ⟨x10_2, x11_2, rfl, rfl, HA, HK2, HO_6, HO_7, HB⟩ := hrel
          cases gk with
          | zero => exact absurd HA.out (by simp [trammellaw6_ScopeIndex.l1])
          | succ k2 =>
            have H := HA.out
            clear HA
            simp only [trammellaw6_ScopeIndex.l1] at H
            by_cases c23 : x11_2 ≥ 0
            · rw [if_pos c23] at H
              have c23b0 : decide (0 ≤ x11_2) = true := decide_eq_true c23
              clear c23
              by_cases c24 : 0 ≤ x11_2
              · rw [if_pos c24] at H
                have c24b0 : decide (0 ≤ x11_2) = true := decide_eq_true c24
                clear c24
                by_cases c25 : x11_2 < (x7_4.length : Int)
                · rw [if_pos c25] at H
                  have c25b0 : decide (x11_2 < (x7_4.length : Int)) = true := decide_eq_true c25
                  clear c25
                  by_cases c26 : (rdOf ByteArray.empty x7_4 x11_2).toList = (strOfNums y294).toList
                  · rw [if_pos c26] at H
                    have c26b0 : ((rdOf ByteArray.empty x7_4 x11_2).toList == (strOfNums y294).toList) = true := beq_iff_eq.mpr c26
                    have c26b1 : ((rdOf ByteArray.empty x7_4 x11_2).toList != (strOfNums y294).toList) = false := bne_eq_false_iff_eq.mpr c26
                    clear c26
                    have H' := Aside0.mk H
                    clear H
                    have p310 : 0 ≤ (x11_2 : Int) := of_decide_eq_true (by first | (with_reducible assumption) | assumption)
                    have q310 : x11_2 < (x7_4.length : Int) := of_decide_eq_true (by first | (with_reducible assumption) | assumption)
                    obtain ⟨ad310, e310, hx310_0⟩ := Kd.at_string (Kd.R_reads' HO_7.out).2.2 x11_2 p310 q310
                    cases e310
                    replace p310 := eq_true p310
                    replace q310 := eq_true q310
                    go_wp2
                    go_roundg k2
                    case measure => have := HJ4.out; have := HK2.out; omega
                    case rel => exact ⟨(x11_2), (wrap64 (x11_2 - 1)), (by first | rfl | (simp; done) | (simp [*]; done)), (by first | rfl | (simp; done) | (simp [*]; done)), H', ⟨by have := HJ4.out; have := HK2.out; omega⟩, ⟨by (with_reducible repeat (first | apply Kd.R_alloc | apply Kd.R_drewN | apply Kd.R_drew)); exact HO_6.out⟩, ⟨by (with_reducible repeat (first | apply Kd.R_alloc | apply Kd.R_drewN | apply Kd.R_drew)); exact HO_7.out⟩, ⟨by repeat (first | (with_reducible first | exact HB.out | apply below_alloc | apply pw_below_drewN | apply below_drew1) | exact HB.out)⟩⟩
                  · rw [if_neg c26] at H
                    have c26b0 : ((rdOf ByteArray.empty x7_4 x11_2).toList == (strOfNums y294).toList) = false := beq_eq_false_iff_ne.mpr c26
                    have c26b1 : ((rdOf ByteArray.empty x7_4 x11_2).toList != (strOfNums y294).toList) = true := bne_iff_ne.mpr c26
                    have H' := Aside0.mk H
                    clear H
                    have p310 : 0 ≤ (x11_2 : Int) := of_decide_eq_true (by first | (with_reducible assumption) | assumption)
                    have q310 : x11_2 < (x7_4.length : Int) := of_decide_eq_true (by first | (with_reducible assumption) | assumption)
                    obtain ⟨ad310, e310, hx310_0⟩ := Kd.at_string (Kd.R_reads' HO_7.out).2.2 x11_2 p310 q310
                    cases e310
                    replace p310 := eq_true p310
                    replace q310 := eq_true q310
                    go_wp2
                    go_roundg k2
                    case measure => have := HJ4.out; have := HK2.out; omega
                    case rel => exact ⟨(x10_2), (wrap64 (x11_2 - 1)), (by first | rfl | (simp; done) | (simp [*]; done)), (by first | rfl | (simp; done) | (simp [*]; done)), H', ⟨by have := HJ4.out; have := HK2.out; omega⟩, ⟨by (with_reducible repeat (first | apply Kd.R_alloc | apply Kd.R_drewN | apply Kd.R_drew)); exact HO_6.out⟩, ⟨by (with_reducible repeat (first | apply Kd.R_alloc | apply Kd.R_drewN | apply Kd.R_drew)); exact HO_7.out⟩, ⟨by repeat (first | (with_reducible first | exact HB.out | apply below_alloc | apply pw_below_drewN | apply below_drew1) | exact HB.out)⟩⟩
                · rw [if_neg c25] at H
                  exact absurd H (by simp)
              · rw [if_neg c24] at H
                exact absurd H (by simp)
            · rw [if_neg c23] at H
              have c23b0 : decide (0 ≤ x11_2) = false := decide_eq_false c23
              clear c23
              replace H := Option.bind_eq_some_iff.mp H
              obtain ⟨⟨t311, t314, t317, t318⟩, A270, H⟩ := H
              replace H : (if x10_2 < 0 then ((trammellaw0_Num.f t318).bind fun t320 => (if t320 = 601 then (if t317 = 9 then (some ((t314.length : Int) == 0)) else (some false)) else (some false))) else ((trammellaw0_Num.f t318).bind fun t321 => (if t321 = 0 then (if (t314.length : Int) = (x6_4.length : Int) then (if 0 < (t314.length : Int) then (some (((rd_T34 t314 0).f4) == x10_2)) else (none)) else (some false)) else (some false)))) = some r := H
              have A27 := Aside0.mk A270
              clear A270
              by_cases c28 : x10_2 < 0
              · rw [if_pos c28] at H
                have c28b0 : decide (x10_2 < 0) = true := decide_eq_true c28
                clear c28
                replace H := Option.bind_eq_some_iff.mp H
                obtain ⟨t320, A290, H⟩ := H
                replace H : (if t320 = 601 then (if t317 = 9 then (some ((t314.length : Int) == 0)) else (some false)) else (some false)) = some r := H
                have A29 := Aside0.mk A290
                clear A290
                by_cases c30 : t320 = 601
                · rw [if_pos c30] at H
                  have c30b0 : (t320 == 601) = true := beq_iff_eq.mpr c30
                  have c30b1 : (t320 != 601) = false := bne_eq_false_iff_eq.mpr c30
                  clear c30
                  by_cases c31 : t317 = 9
                  · rw [if_pos c31] at H
                    have c31b0 : (t317 == 9) = true := beq_iff_eq.mpr c31
                    have c31b1 : (t317 != 9) = false := bne_eq_false_iff_eq.mpr c31
                    clear c31
                    obtain rfl := Option.some.inj H
                    obtain ⟨Ao32, co32, eo32⟩ := Kd.R_slice HO_6.out
                    subst eo32
                    go_wp2_with (first | ((with_reducible refine gate_callee (f := 8) rfl ?_); refine goesL_ (some 72) rfl rfl Tryd.func8 (by kernel_rfl) rfl #[.agg #[.slice none 0 0, .slice Ao32 x6_4.length co32]] rfl (by (try simp only [List.map_toArray, List.map_cons, List.map_nil]); first | done | rfl | (simp only [List.length_drop, List.length_take]; rfl)) ?_; (refine (scope_Resolve.calls k2 _ _ ([] : List (S45)) _ _ x6_4 t311 t314 t317 t318 _ ?side1 ?side2 ?side3 ?side4 A27.out (HG.out.below HG.out.lt (by repeat (first | (with_reducible first | exact HB.out | apply below_alloc | apply pw_below_drewN | apply below_drew1 | refine below_set ?_ (Aside0.out (by assumption))) | exact HB.out)))).mono ?_); (case side1 => exact Kd.C_nil _ _); (case side2 => exact Nat.le_refl _); (case side3 => repeat (first | exact (Kd.R_reads' HO_6.out).2.2 | (with_reducible refine Kd.C_alloc ?_ _) | (with_reducible refine Kd.C_drewN ?_ _) | (with_reducible refine Kd.C_drew ?_))); (case side4 => exact (Kd.R_reads' HO_6.out).2.1); rintro e w33 ⟨v312, v315, rfl, ho0, ho1, hb⟩; refine ⟨_, rfl, ?_⟩; have n0_ := Aside0.mk (Kd.R_elder' (by (with_reducible repeat (first | apply Kd.R_alloc | apply Kd.R_drewN | apply Kd.R_drew)); exact HO_6.out) (Kd.R_base ho1) hb); have n1_ := Aside0.mk (Kd.R_below (by (with_reducible repeat (first | apply Kd.R_alloc | apply Kd.R_drewN | apply Kd.R_drew)); exact HO_7.out) hb); have n2_ := Aside0.mk (Kd.R_lower ho0 (below_size (by repeat (first | (with_reducible first | exact HB.out | apply below_alloc | apply pw_below_drewN | apply below_drew1) | exact HB.out)))); have n3_ := Aside0.mk (Kd.R_lower (Kd.R_new' ho1 (Kd.R_lt (by (with_reducible repeat (first | apply Kd.R_alloc | apply Kd.R_drewN | apply Kd.R_drew)); exact HO_6.out))) (below_size (by repeat (first | (with_reducible first | exact HB.out | apply below_alloc | apply pw_below_drewN | apply below_drew1) | exact HB.out)))); have n4_ := Aside0.mk (below_step (by repeat (first | (with_reducible first | exact HB.out | apply below_alloc | apply pw_below_drewN | apply below_drew1) | exact HB.out)) hb); clear HO_6; clear HO_7; clear HB; have HO_6 := n0_; have HO_7 := n1_; have HO313 := n2_; have HO316 := n3_; have HB := n4_; clear n0_ n1_ n2_ n3_ n4_; (try clear hb); (try clear hb2); (try clear hk); (try clear hi); (try clear ho0); (try clear ho1)) | ((with_reducible refine gate_dst (N := 12) rfl ?_); (try (refine gate_guard (by rfl) ?_; dsimp only)); refine box_event ?hg (N := 12) ?hd (cs := #[.slice none 0 0, .slice none 0 0]) (t := 25) ?hr ?_; (case hd => rfl); (case hg => rfl); (case hr => first | (go_simp; done) | (go_simp; rfl)); intro gb319 hg w34 hbox hb; have n0_ := Aside0.mk (Kd.R_below (by (with_reducible repeat (first | apply Kd.R_alloc | apply Kd.R_drewN | apply Kd.R_drew)); exact HO_6.out) hb); have n1_ := Aside0.mk (Kd.R_below (by (with_reducible repeat (first | apply Kd.R_alloc | apply Kd.R_drewN | apply Kd.R_drew)); exact HO_7.out) hb); have n2_ := Aside0.mk (Kd.R_below (by (with_reducible repeat (first | apply Kd.R_alloc | apply Kd.R_drewN | apply Kd.R_drew)); exact HO313.out) hb); have n3_ := Aside0.mk (Kd.R_below (by (with_reducible repeat (first | apply Kd.R_alloc | apply Kd.R_drewN | apply Kd.R_drew)); exact HO316.out) hb); have n4_ := Aside0.mk (below_step (by repeat (first | (with_reducible first | exact HB.out | apply below_alloc | apply pw_below_drewN | apply below_drew1) | exact HB.out)) hb); have n5_ := Aside0.mk (hbox); have n6_ := Aside0.mk ((by rw [hg]; exact (below_size (by repeat (first | (with_reducible first | exact HB.out | apply below_alloc | apply pw_below_drewN | apply below_drew1) | exact HB.out))) : w.heap.size ≤ gb319)); have n7_ := Aside0.mk ((by rw [hg]; exact (below_size (by repeat (first | (with_reducible first | exact HB.out | apply below_alloc | apply pw_below_drewN | apply below_drew1) | exact HB.out))) : w.heap.size ≤ gb319)); clear HO_6; clear HO_7; clear HO313; clear HO316; clear HB; have HO_6 := n0_; have HO_7 := n1_; have HO313 := n2_; have HO316 := n3_; have HB := n4_; have BK319 := n5_; have GW319 := n6_; have GE319 := n7_; clear n0_ n1_ n2_ n3_ n4_ n5_ n6_ n7_; clear hb hbox hg; obtain ⟨Ao35, co35, eo35⟩ := Kd.R_slice HO313.out; subst eo35; have hcz36_0 : w34.cell? ⟨gb319, 0, none⟩ = some (.slice none 0 0) := (blk_cell BK319.out 0).trans rfl; have hcz36_1 : w34.cell? ⟨gb319, 1, none⟩ = some (.slice none 0 0) := (blk_cell BK319.out 1).trans rfl; have hfz36_0 := blk_frozen BK319.out 0; have hfz36_1 := blk_frozen BK319.out 1; obtain ⟨Ao37, co37, eo37⟩ := Kd.R_slice HO316.out; subst eo37) | ((with_reducible refine gate_callee (f := 9) rfl ?_); refine goesL_ (some 79) rfl rfl Tryd.func9 (by kernel_rfl) rfl #[.int .i64 t318] rfl (by (try simp only [List.map_toArray, List.map_cons, List.map_nil]); first | done | rfl | (simp only [List.length_drop, List.length_take]; rfl)) ?_; (with_reducible refine (trammellaw0_Num.calls t318 t320 _ A29.out).mono ?_); rintro e w' ⟨rfl, ⟨nd, rfl⟩⟩; refine ⟨_, rfl, ?_⟩))
                    go_ret
                    exact ⟨by first | rfl | (simp [errW_none, errW_some] <;> rfl) | (simp [*, errW_none, errW_some] <;> rfl), by repeat (first | (with_reducible first | exact HB.out | apply below_alloc | apply pw_below_drewN | apply below_drew1 | refine below_set ?_ GE319.out) | exact HB.out)⟩
                  · rw [if_neg c31] at H
                    have c31b0 : (t317 == 9) = false := beq_eq_false_iff_ne.mpr c31
                    have c31b1 : (t317 != 9) = true := bne_iff_ne.mpr c31
                    exact absurd ((Option.some.inj H).trans HTRUE.out) (by decide)
                · rw [if_neg c30] at H
                  have c30b0 : (t320 == 601) = false := beq_eq_false_iff_ne.mpr c30
                  have c30b1 : (t320 != 601) = true := bne_iff_ne.mpr c30
                  exact absurd ((Option.some.inj H).trans HTRUE.out) (by decide)
              · rw [if_neg c28] at H
                have c28b0 : decide (x10_2 < 0) = false := decide_eq_false c28
                clear c28
                replace H := Option.bind_eq_some_iff.mp H
                obtain ⟨t321, A380, H⟩ := H
                replace H : (if t321 = 0 then (if (t314.length : Int) = (x6_4.length : Int) then (if 0 < (t314.length : Int) then (some (((rd_T34 t314 0).f4) == x10_2)) else (none)) else (some false)) else (some false)) = some r := H
                have A38 := Aside0.mk A380
                clear A380
                by_cases c39 : t321 = 0
                · rw [if_pos c39] at H
                  have c39b0 : (t321 == 0) = true := beq_iff_eq.mpr c39
                  have c39b1 : (t321 != 0) = false := bne_eq_false_iff_eq.mpr c39
                  clear c39
                  by_cases c40 : (t314.length : Int) = (x6_4.length : Int)
                  · rw [if_pos c40] at H
                    have c40b0 : ((t314.length : Int) == (x6_4.length : Int)) = true := beq_iff_eq.mpr c40
                    have c40b1 : ((t314.length : Int) != (x6_4.length : Int)) = false := bne_eq_false_iff_eq.mpr c40
                    have c40b2 : (t314.length == x6_4.length) = true := by first | simpa using c40 | (simp at c40 ⊢; omega)
                    clear c40
                    by_cases c41 : 0 < (t314.length : Int)
                    · rw [if_pos c41] at H
                      have c41b0 : decide (0 < (t314.length : Int)) = true := decide_eq_true c41
                      have c41b1 : decide (0 < t314.length) = true := decide_eq_true (by omega)
                      clear c41
                      obtain rfl := Option.some.inj H
                      obtain ⟨Ao42, co42, eo42⟩ := Kd.R_slice HO_6.out
                      subst eo42
                      go_wp2_with (first | ((with_reducible refine gate_callee (f := 8) rfl ?_); refine goesL_ (some 72) rfl rfl Tryd.func8 (by kernel_rfl) rfl #[.agg #[.slice none 0 0, .slice Ao42 x6_4.length co42]] rfl (by (try simp only [List.map_toArray, List.map_cons, List.map_nil]); first | done | rfl | (simp only [List.length_drop, List.length_take]; rfl)) ?_; (refine (scope_Resolve.calls k2 _ _ ([] : List (S45)) _ _ x6_4 t311 t314 t317 t318 _ ?side1 ?side2 ?side3 ?side4 A27.out (HG.out.below HG.out.lt (by repeat (first | (with_reducible first | exact HB.out | apply below_alloc | apply pw_below_drewN | apply below_drew1 | refine below_set ?_ (Aside0.out (by assumption))) | exact HB.out)))).mono ?_); (case side1 => exact Kd.C_nil _ _); (case side2 => exact Nat.le_refl _); (case side3 => repeat (first | exact (Kd.R_reads' HO_6.out).2.2 | (with_reducible refine Kd.C_alloc ?_ _) | (with_reducible refine Kd.C_drewN ?_ _) | (with_reducible refine Kd.C_drew ?_))); (case side4 => exact (Kd.R_reads' HO_6.out).2.1); rintro e w43 ⟨v312, v315, rfl, ho0, ho1, hb⟩; refine ⟨_, rfl, ?_⟩; have n0_ := Aside0.mk (Kd.R_elder' (by (with_reducible repeat (first | apply Kd.R_alloc | apply Kd.R_drewN | apply Kd.R_drew)); exact HO_6.out) (Kd.R_base ho1) hb); have n1_ := Aside0.mk (Kd.R_below (by (with_reducible repeat (first | apply Kd.R_alloc | apply Kd.R_drewN | apply Kd.R_drew)); exact HO_7.out) hb); have n2_ := Aside0.mk (Kd.R_lower ho0 (below_size (by repeat (first | (with_reducible first | exact HB.out | apply below_alloc | apply pw_below_drewN | apply below_drew1) | exact HB.out)))); have n3_ := Aside0.mk (Kd.R_lower (Kd.R_new' ho1 (Kd.R_lt (by (with_reducible repeat (first | apply Kd.R_alloc | apply Kd.R_drewN | apply Kd.R_drew)); exact HO_6.out))) (below_size (by repeat (first | (with_reducible first | exact HB.out | apply below_alloc | apply pw_below_drewN | apply below_drew1) | exact HB.out)))); have n4_ := Aside0.mk (below_step (by repeat (first | (with_reducible first | exact HB.out | apply below_alloc | apply pw_below_drewN | apply below_drew1) | exact HB.out)) hb); clear HO_6; clear HO_7; clear HB; have HO_6 := n0_; have HO_7 := n1_; have HO313 := n2_; have HO316 := n3_; have HB := n4_; clear n0_ n1_ n2_ n3_ n4_; (try clear hb); (try clear hb2); (try clear hk); (try clear hi); (try clear ho0); (try clear ho1)) | ((with_reducible refine gate_dst (N := 12) rfl ?_); (try (refine gate_guard (by rfl) ?_; dsimp only)); refine box_event ?hg (N := 12) ?hd (cs := #[.slice none 0 0, .slice none 0 0]) (t := 25) ?hr ?_; (case hd => rfl); (case hg => rfl); (case hr => first | (go_simp; done) | (go_simp; rfl)); intro gb319 hg w44 hbox hb; have n0_ := Aside0.mk (Kd.R_below (by (with_reducible repeat (first | apply Kd.R_alloc | apply Kd.R_drewN | apply Kd.R_drew)); exact HO_6.out) hb); have n1_ := Aside0.mk (Kd.R_below (by (with_reducible repeat (first | apply Kd.R_alloc | apply Kd.R_drewN | apply Kd.R_drew)); exact HO_7.out) hb); have n2_ := Aside0.mk (Kd.R_below (by (with_reducible repeat (first | apply Kd.R_alloc | apply Kd.R_drewN | apply Kd.R_drew)); exact HO313.out) hb); have n3_ := Aside0.mk (Kd.R_below (by (with_reducible repeat (first | apply Kd.R_alloc | apply Kd.R_drewN | apply Kd.R_drew)); exact HO316.out) hb); have n4_ := Aside0.mk (below_step (by repeat (first | (with_reducible first | exact HB.out | apply below_alloc | apply pw_below_drewN | apply below_drew1) | exact HB.out)) hb); have n5_ := Aside0.mk (hbox); have n6_ := Aside0.mk ((by rw [hg]; exact (below_size (by repeat (first | (with_reducible first | exact HB.out | apply below_alloc | apply pw_below_drewN | apply below_drew1) | exact HB.out))) : w.heap.size ≤ gb319)); have n7_ := Aside0.mk ((by rw [hg]; exact (below_size (by repeat (first | (with_reducible first | exact HB.out | apply below_alloc | apply pw_below_drewN | apply below_drew1) | exact HB.out))) : w.heap.size ≤ gb319)); clear HO_6; clear HO_7; clear HO313; clear HO316; clear HB; have HO_6 := n0_; have HO_7 := n1_; have HO313 := n2_; have HO316 := n3_; have HB := n4_; have BK319 := n5_; have GW319 := n6_; have GE319 := n7_; clear n0_ n1_ n2_ n3_ n4_ n5_ n6_ n7_; clear hb hbox hg; obtain ⟨Ao45, co45, eo45⟩ := Kd.R_slice HO313.out; subst eo45; have hcz46_0 : w44.cell? ⟨gb319, 0, none⟩ = some (.slice none 0 0) := (blk_cell BK319.out 0).trans rfl; have hcz46_1 : w44.cell? ⟨gb319, 1, none⟩ = some (.slice none 0 0) := (blk_cell BK319.out 1).trans rfl; have hfz46_0 := blk_frozen BK319.out 0; have hfz46_1 := blk_frozen BK319.out 1; obtain ⟨Ao47, co47, eo47⟩ := Kd.R_slice HO316.out; subst eo47) | ((with_reducible refine gate_callee (f := 9) rfl ?_); refine goesL_ (some 92) rfl rfl Tryd.func9 (by kernel_rfl) rfl #[.int .i64 t318] rfl (by (try simp only [List.map_toArray, List.map_cons, List.map_nil]); first | done | rfl | (simp only [List.length_drop, List.length_take]; rfl)) ?_; (with_reducible refine (trammellaw0_Num.calls t318 t321 _ A38.out).mono ?_); rintro e w' ⟨rfl, ⟨nd, rfl⟩⟩; refine ⟨_, rfl, ?_⟩; have p322 : 0 ≤ (0 : Int) := (by omega); have q322 : 0 < (t314.length : Int) := of_decide_eq_true (by first | (with_reducible assumption) | assumption); obtain ⟨ad322, e322, hx322_0, hx322_1, hx322_2, hx322_3, hx322_4, hx322_5, hx322_6, hx322_7, hx322_8, hx322_9⟩ := at_T34 (Kd.R_reads' HO316.out).2.2 0 p322 q322; cases e322; have qi322 : (0 < t314.length) = True := eq_true (by omega); (try rw [show ((0 : Int)).toNat = 0 from rfl] at hx322_0); (try rw [show 0 * 10 = 0 from rfl] at hx322_0); (try rw [Addr.add_zero'] at hx322_0); (try rw [show ((0 : Int)).toNat = 0 from rfl] at hx322_1); (try rw [show 0 * 10 = 0 from rfl] at hx322_1); (try rw [Addr.add_zero'] at hx322_1); (try rw [show ((0 : Int)).toNat = 0 from rfl] at hx322_2); (try rw [show 0 * 10 = 0 from rfl] at hx322_2); (try rw [Addr.add_zero'] at hx322_2); (try rw [show ((0 : Int)).toNat = 0 from rfl] at hx322_3); (try rw [show 0 * 10 = 0 from rfl] at hx322_3); (try rw [Addr.add_zero'] at hx322_3); (try rw [show ((0 : Int)).toNat = 0 from rfl] at hx322_4); (try rw [show 0 * 10 = 0 from rfl] at hx322_4); (try rw [Addr.add_zero'] at hx322_4); (try rw [show ((0 : Int)).toNat = 0 from rfl] at hx322_5); (try rw [show 0 * 10 = 0 from rfl] at hx322_5); (try rw [Addr.add_zero'] at hx322_5); (try rw [show ((0 : Int)).toNat = 0 from rfl] at hx322_6); (try rw [show 0 * 10 = 0 from rfl] at hx322_6); (try rw [Addr.add_zero'] at hx322_6); (try rw [show ((0 : Int)).toNat = 0 from rfl] at hx322_7); (try rw [show 0 * 10 = 0 from rfl] at hx322_7); (try rw [Addr.add_zero'] at hx322_7); (try rw [show ((0 : Int)).toNat = 0 from rfl] at hx322_8); (try rw [show 0 * 10 = 0 from rfl] at hx322_8); (try rw [Addr.add_zero'] at hx322_8); (try rw [show ((0 : Int)).toNat = 0 from rfl] at hx322_9); (try rw [show 0 * 10 = 0 from rfl] at hx322_9); (try rw [Addr.add_zero'] at hx322_9); have hn322_0 : ad322.block ≠ gb319 := Kd.own_blk (Kd.R_ne HO316.out BK319.out (by decide)); have hn322_1 : ad322.block ≠ gb319 := Kd.own_blk (Kd.R_ne HO316.out BK319.out (by decide)); replace hx322_0 := (cell_far (p := ⟨gb319, 0, none⟩) (by first | (rw [add_block]; exact hn322_0) | (show (Addr.add _ _).block ≠ _; rw [add_block]; exact hn322_0) | exact hn322_0) (.slice Ao45 t311.length co45)).trans hx322_0; replace hx322_1 := (cell_far (p := ⟨gb319, 0, none⟩) (by first | (rw [add_block]; exact hn322_0) | (show (Addr.add _ _).block ≠ _; rw [add_block]; exact hn322_0) | exact hn322_0) (.slice Ao45 t311.length co45)).trans hx322_1; replace hx322_2 := (cell_far (p := ⟨gb319, 0, none⟩) (by first | (rw [add_block]; exact hn322_0) | (show (Addr.add _ _).block ≠ _; rw [add_block]; exact hn322_0) | exact hn322_0) (.slice Ao45 t311.length co45)).trans hx322_2; replace hx322_3 := (cell_far (p := ⟨gb319, 0, none⟩) (by first | (rw [add_block]; exact hn322_0) | (show (Addr.add _ _).block ≠ _; rw [add_block]; exact hn322_0) | exact hn322_0) (.slice Ao45 t311.length co45)).trans hx322_3; replace hx322_4 := (cell_far (p := ⟨gb319, 0, none⟩) (by first | (rw [add_block]; exact hn322_0) | (show (Addr.add _ _).block ≠ _; rw [add_block]; exact hn322_0) | exact hn322_0) (.slice Ao45 t311.length co45)).trans hx322_4; replace hx322_5 := (cell_far (p := ⟨gb319, 0, none⟩) (by first | (rw [add_block]; exact hn322_0) | (show (Addr.add _ _).block ≠ _; rw [add_block]; exact hn322_0) | exact hn322_0) (.slice Ao45 t311.length co45)).trans hx322_5; replace hx322_6 := (cell_far (p := ⟨gb319, 0, none⟩) (by first | (rw [add_block]; exact hn322_0) | (show (Addr.add _ _).block ≠ _; rw [add_block]; exact hn322_0) | exact hn322_0) (.slice Ao45 t311.length co45)).trans hx322_6; replace hx322_7 := (cell_far (p := ⟨gb319, 0, none⟩) (by first | (rw [add_block]; exact hn322_0) | (show (Addr.add _ _).block ≠ _; rw [add_block]; exact hn322_0) | exact hn322_0) (.slice Ao45 t311.length co45)).trans hx322_7; replace hx322_8 := (cell_far (p := ⟨gb319, 0, none⟩) (by first | (rw [add_block]; exact hn322_0) | (show (Addr.add _ _).block ≠ _; rw [add_block]; exact hn322_0) | exact hn322_0) (.slice Ao45 t311.length co45)).trans hx322_8; replace hx322_9 := (cell_far (p := ⟨gb319, 0, none⟩) (by first | (rw [add_block]; exact hn322_0) | (show (Addr.add _ _).block ≠ _; rw [add_block]; exact hn322_0) | exact hn322_0) (.slice Ao45 t311.length co45)).trans hx322_9; replace hx322_0 := (cell_far (p := ⟨gb319, 1, none⟩) (by first | (rw [add_block]; exact hn322_1) | (show (Addr.add _ _).block ≠ _; rw [add_block]; exact hn322_1) | exact hn322_1) (.slice (some ad322) t314.length co47)).trans hx322_0; replace hx322_1 := (cell_far (p := ⟨gb319, 1, none⟩) (by first | (rw [add_block]; exact hn322_1) | (show (Addr.add _ _).block ≠ _; rw [add_block]; exact hn322_1) | exact hn322_1) (.slice (some ad322) t314.length co47)).trans hx322_1; replace hx322_2 := (cell_far (p := ⟨gb319, 1, none⟩) (by first | (rw [add_block]; exact hn322_1) | (show (Addr.add _ _).block ≠ _; rw [add_block]; exact hn322_1) | exact hn322_1) (.slice (some ad322) t314.length co47)).trans hx322_2; replace hx322_3 := (cell_far (p := ⟨gb319, 1, none⟩) (by first | (rw [add_block]; exact hn322_1) | (show (Addr.add _ _).block ≠ _; rw [add_block]; exact hn322_1) | exact hn322_1) (.slice (some ad322) t314.length co47)).trans hx322_3; replace hx322_4 := (cell_far (p := ⟨gb319, 1, none⟩) (by first | (rw [add_block]; exact hn322_1) | (show (Addr.add _ _).block ≠ _; rw [add_block]; exact hn322_1) | exact hn322_1) (.slice (some ad322) t314.length co47)).trans hx322_4; replace hx322_5 := (cell_far (p := ⟨gb319, 1, none⟩) (by first | (rw [add_block]; exact hn322_1) | (show (Addr.add _ _).block ≠ _; rw [add_block]; exact hn322_1) | exact hn322_1) (.slice (some ad322) t314.length co47)).trans hx322_5; replace hx322_6 := (cell_far (p := ⟨gb319, 1, none⟩) (by first | (rw [add_block]; exact hn322_1) | (show (Addr.add _ _).block ≠ _; rw [add_block]; exact hn322_1) | exact hn322_1) (.slice (some ad322) t314.length co47)).trans hx322_6; replace hx322_7 := (cell_far (p := ⟨gb319, 1, none⟩) (by first | (rw [add_block]; exact hn322_1) | (show (Addr.add _ _).block ≠ _; rw [add_block]; exact hn322_1) | exact hn322_1) (.slice (some ad322) t314.length co47)).trans hx322_7; replace hx322_8 := (cell_far (p := ⟨gb319, 1, none⟩) (by first | (rw [add_block]; exact hn322_1) | (show (Addr.add _ _).block ≠ _; rw [add_block]; exact hn322_1) | exact hn322_1) (.slice (some ad322) t314.length co47)).trans hx322_8; replace hx322_9 := (cell_far (p := ⟨gb319, 1, none⟩) (by first | (rw [add_block]; exact hn322_1) | (show (Addr.add _ _).block ≠ _; rw [add_block]; exact hn322_1) | exact hn322_1) (.slice (some ad322) t314.length co47)).trans hx322_9; clear hn322_0; clear hn322_1; replace p322 := eq_true p322; replace q322 := eq_true q322))
                      go_ret
                      exact ⟨by first | rfl | (simp [errW_none, errW_some] <;> rfl) | (simp [*, errW_none, errW_some] <;> rfl), by repeat (first | (with_reducible first | exact HB.out | apply below_alloc | apply pw_below_drewN | apply below_drew1 | refine below_set ?_ GE319.out) | exact HB.out)⟩
                    · rw [if_neg c41] at H
                      exact absurd H (by simp)
                  · rw [if_neg c40] at H
                    have c40b0 : ((t314.length : Int) == (x6_4.length : Int)) = false := beq_eq_false_iff_ne.mpr c40
                    have c40b1 : ((t314.length : Int) != (x6_4.length : Int)) = true := bne_iff_ne.mpr c40
                    have c40b2 : (t314.length == x6_4.length) = false := by first | simpa using c40 | (simp at c40 ⊢; omega)
                    exact absurd ((Option.some.inj H).trans HTRUE.out) (by decide)
                · rw [if_neg c39] at H
                  have c39b0 : (t321 == 0) = false := beq_eq_false_iff_ne.mpr c39
                  have c39b1 : (t321 != 0) = true := bne_iff_ne.mpr c39
                  exact absurd ((Option.some.inj H).trans HTRUE.out) (by decide)
  · replace c4 := Bool.eq_false_iff.mpr c4
    subst c4
    have H1 : (some false) = some r := by rw [if_neg (show ¬ (false = true) by decide)] at H; exact H
    clear H
    have H := H1
    clear H1
    exact absurd ((Option.some.inj H).trans HTRUE.out) (by decide)
end Go.Proofs.YtfcjpkkglffnmaaDoor.H

set_option linter.unusedVariables false
namespace Go.Proofs.YtfcjpkkglffnmaaDoor.Bits
open Go.RowKit
theorem wrap_i64_mem {n : Int} (h0 : 0 ≤ n) (h1 : n < 2 ^ 63) : IntKind.i64.wrap n = n := by
  rw [IntKind.wrap_i64]
  omega
theorem and_mask (i : Nat) (hi : i ≤ 62) (x : Int) : bits .and .i64 x (2 ^ i - 1) = x % 2 ^ i := by
  have hpos : 0 < 2 ^ i := Nat.two_pow_pos i
  have hle : 2 ^ i ≤ 2 ^ 62 := Nat.pow_le_pow_right (by decide) hi
  have hc : ((2 : Int) ^ i - 1) = ((2 ^ i - 1 : Nat) : Int) := by
    rw [Int.natCast_sub hpos]; simp
  have e : bits .and .i64 x (2 ^ i - 1) = IntKind.i64.wrap (((x % ((2 ^ 64 : Nat) : Int)).toNat &&& (2 ^ i - 1) : Nat) : Int) := by
    rw [hc]
    have hb : (2 ^ i - 1) % 2 ^ IntKind.i64.bits = 2 ^ i - 1 := Nat.mod_eq_of_lt (by
      show 2 ^ i - 1 < 2 ^ 64
      omega)
    simp only [bits, BitVec.ofInt_natCast, BitVec.toNat_and, BitVec.toNat_ofNat, BitVec.toNat_ofInt, hb]
    rfl
  rw [e, Nat.and_two_pow_sub_one_eq_mod]
  have hlt : (x % ((2 ^ 64 : Nat) : Int)).toNat % 2 ^ i < 2 ^ i := Nat.mod_lt _ hpos
  rw [wrap_i64_mem (by omega) (by omega)]
  have hn : (0 : Int) ≤ x % ((2 ^ 64 : Nat) : Int) := Int.emod_nonneg _ (by decide)
  rw [Int.natCast_emod, Int.toNat_of_nonneg hn]
  have hd : ((2 : Int) ^ i) ∣ ((2 ^ 64 : Nat) : Int) := by
    refine ⟨((2 ^ (64 - i) : Nat) : Int), ?_⟩
    have : (2 : Nat) ^ 64 = 2 ^ i * 2 ^ (64 - i) := by rw [← Nat.pow_add]; congr 1; omega
    rw [this]
    simp
  rw [show ((2 ^ i : Nat) : Int) = (2 : Int) ^ i from by simp]
  exact Int.emod_emod_of_dvd x hd
theorem and3 (x : Int) : bits .and .i64 x 3 = x % 4 := and_mask 2 (by decide) x
end Go.Proofs.YtfcjpkkglffnmaaDoor.Bits

set_option linter.unusedVariables false
set_option linter.unusedSimpArgs false
set_option maxRecDepth 100000
namespace Go.Proofs.YtfcjpkkglffnmaaDoor.H
open Go.RowKit Go.Proofs.YtfcjpkkglffnmaaDoorW.PrintWords Go.Proofs.YtfcjpkkglffnmaaDoorW.PrintLast Go.Proofs.YtfcjpkkglffnmaaDoorW.PrintMore
def ch (v : Int) : ByteArray := strOfNums [(wrap64 (97 + (Go.bits .and .i64 v 3))) % 256]
theorem ch_nm (v : Int) : nm (ch v).data.toList = true := by
  unfold ch
  rw [Bits.and3]
  have h0 := Int.emod_nonneg v (b := 4) (by decide)
  have h1 := Int.emod_lt_of_pos v (b := 4) (by decide)
  generalize v % 4 = r at *
  have : r = 0 ∨ r = 1 ∨ r = 2 ∨ r = 3 := by omega
  rcases this with rfl | rfl | rfl | rfl <;> decide +kernel
theorem idx_loop1 (u : ByteArray) (x6 : List S34) (row : List ByteArray) (hl : row.length ≤ 100) (K : Nat) : ∀ (i : Nat), i ≤ row.length →
    trammellaw6_ScopeIndex.l1 (K + i + 1) u x6 row (posOf u (row.drop i) i) ((i : Int) - 1) = trammellaw6_ScopeIndex.l1 (K + 1) u x6 row (posOf u row 0) (-1)
  | 0, _ => by rfl
  | i + 1, hi => by
    have hlt : i < row.length := by omega
    rw [show K + (i + 1) + 1 = (K + i + 1) + 1 from rfl, trammellaw6_ScopeIndex.l1, if_pos (by omega), if_pos (by omega), if_pos (by omega)]
    rw [show (((i + 1 : Nat) : Int) - 1) = (i : Int) from by omega, show wrap64 ((i : Int) - 1) = (i : Int) - 1 from by unfold wrap64; omega]
    have e : rdOf ByteArray.empty row (i : Int) = row[i] := by
      rw [rdOf, Int.toNat_natCast, List.getD_eq_getElem?_getD, List.getElem?_eq_getElem hlt]
      rfl
    have ih := idx_loop1 u x6 row hl K i (by omega)
    rw [List.drop_eq_getElem_cons hlt, posOf] at ih
    rw [e]
    by_cases h : u = row[i]
    · rw [if_pos h] at ih
      rw [if_pos (by rw [← h])]
      exact ih
    · rw [if_neg h] at ih
      rw [if_neg (fun h' => h (toList_inj.1 h').symm)]
      exact ih
theorem idx_last (a1 : Int) (row : List ByteArray) (hl : row.length ≤ 100) (hr : ∀ s ∈ row, nm s.data.toList = true) (K : Nat) (hK : 2000 ≤ K) : trammellaw6_ScopeIndex.l1 (K + 1) (ch a1) (chainN (ch a1) row) row (posOf (ch a1) row 0) (-1) = some true := by
  obtain ⟨ns', h1, h2, h3⟩ := chain_res (ch a1) row K hl (ch_nm a1) hr hK
  rw [trammellaw6_ScopeIndex.l1, if_neg (by omega), h1, Option.bind_some]
  by_cases hp : posOf (ch a1) row 0 < 0
  · simp only [if_pos hp]
    all_goals rfl
  · simp only [if_neg hp]
    have e : ((ns'.length : Int) = ((chainN (ch a1) row).length : Int)) := by rw [h2, chain_len]
    rw [show trammellaw0_Num.f 0 = some 0 from rfl, Option.bind_some, if_pos rfl, if_pos e, if_pos (by rw [h2]; omega), h3]
    simp
theorem idx_loop0 (l0 : List Int) (a1 : Int) (K : Nat) (hK : 2200 ≤ K) : ∀ (n i : Nat), min l0.length 20 - i = n → i ≤ min l0.length 20 →
    trammellaw6_ScopeIndex.l0 (K + n + 1) l0 (ch a1) (chainN (ch a1) ((l0.take i).map ch)) ((l0.take i).map ch) (i : Int) = some true := by
  intro n
  induction n with
  | zero =>
    intro i hn hi
    have hlen : ((l0.take i).map ch).length = i := by rw [List.length_map, List.length_take]; omega
    have fin : trammellaw6_ScopeIndex.j1 K (ch a1) (chainN (ch a1) ((l0.take i).map ch)) ((l0.take i).map ch) = some true := by
      obtain ⟨K, rfl⟩ : ∃ m, K = m + i + 2 := ⟨K - i - 2, by omega⟩
      rw [trammellaw6_ScopeIndex.j1]
      have h := idx_loop1 (ch a1) (chainN (ch a1) ((l0.take i).map ch)) ((l0.take i).map ch) (by omega) K i (by omega)
      rw [List.drop_eq_nil_of_le (by omega), posOf] at h
      rw [show wrap64 ((((l0.take i).map ch).length : Int) - 1) = (i : Int) - 1 from by rw [hlen]; unfold wrap64; omega, h]
      exact idx_last a1 _ (by omega) (fun s hs => by obtain ⟨v, _, rfl⟩ := List.mem_map.1 hs; exact ch_nm v) K (by omega)
    rw [Nat.add_zero, trammellaw6_ScopeIndex.l0]
    by_cases h : (i : Int) < (l0.length : Int)
    · rw [if_pos h, if_neg (by omega)]
      exact fin
    · rw [if_neg h]
      exact fin
  | succ n ih =>
    intro i hn hi
    have hlen : ((l0.take i).map ch).length = i := by rw [List.length_map, List.length_take]; omega
    have hlt : i < l0.length := by omega
    rw [show K + (n + 1) + 1 = (K + n + 1) + 1 from rfl, trammellaw6_ScopeIndex.l0, if_pos (by omega), if_pos (by omega), if_pos (by omega), Option.bind_some, if_pos (by omega), if_pos (by rw [chain_len]; omega)]
    have e : rd l0 (i : Int) = l0[i] := by
      rw [rd, Int.toNat_natCast, List.getD_eq_getElem?_getD, List.getElem?_eq_getElem hlt]
      rfl
    rw [e, show wrap64 ((i : Int) + 1) = ((i + 1 : Nat) : Int) from by unfold wrap64; omega]
    have h := ih (i + 1) (by omega) (by omega)
    rw [List.take_succ_eq_append_getElem hlt, List.map_append, List.map_cons, List.map_nil, chain_append, hlen] at h
    exact h
theorem ScopeIndex_pure (l0 : List Int) (a1 : Int) : ∃ k, trammellaw6_ScopeIndex.f k l0 a1 = some true := by
  refine ⟨2200 + (min l0.length 20 - 0) + 1, ?_⟩
  unfold trammellaw6_ScopeIndex.f
  rw [at_rounds trammellaw6_awake.mono (by omega : 1300 ≤ 2200 + (min l0.length 20 - 0) + 1) trammellaw6_awake.is, Option.bind_some, if_pos rfl, Option.bind_some]
  exact idx_loop0 l0 a1 2200 (Nat.le_refl _) _ 0 rfl (Nat.zero_le _)
end Go.Proofs.YtfcjpkkglffnmaaDoor.H
