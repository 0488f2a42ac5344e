/- Several texts in one: contracts of functions of the program, and what they lean on. In part written by a program of this session over the kit's print, in part by hand. -/
import Derived.Test.YtfcjpkkglffnmaaDoorYScopeForms3
import Derived.Test.YtfcjpkkglffnmaaDoorYScopeForms2
import Derived.Maps.OwnSet
import Derived.Lib.SliceRun
import Derived.ChangeAlike
import Derived.RegionTactic
import Derived.BigQuiet
import Derived.Deep.QuietTactic
import Derived.Deep.RegionHeld3
set_option linter.unusedVariables false
set_option linter.unusedSimpArgs false
namespace Go.Proofs.YtfcjpkkglffnmaaDoor.H
open Go.RowKit Go.Proofs.YtfcjpkkglffnmaaDoorW.PrintWords Go.Proofs.YtfcjpkkglffnmaaDoorW.PrintLast Go.Proofs.YtfcjpkkglffnmaaDoorW.PrintMore
theorem toList_inj {a b : ByteArray} : a.toList = b.toList ↔ a = b := by
  rw [toList_data, toList_data]
  exact ⟨bytes_ext, fun h => by rw [h]⟩
theorem toList_beq (a b : ByteArray) : (a.toList == b.toList) = decide (a = b) := by
  by_cases h : a = b
  · subst h; simp
  · have : ¬ a.toList = b.toList := fun h' => h (toList_inj.1 h')
    rw [decide_eq_false h]
    simpa using this
theorem node_ext {x y : S34} (h0 : x.f0 = y.f0) (h1 : x.f1 = y.f1) (h2 : x.f2 = y.f2) (h3 : x.f3 = y.f3) (h4 : x.f4 = y.f4) (h5 : x.f5 = y.f5) (h6 : x.f6 = y.f6) (h7 : x.f7 = y.f7) (h8 : x.f8 = y.f8) (h9 : x.f9 = y.f9) : x = y := by
  cases x; cases y
  simp only at h0 h1 h2 h3 h4 h5 h6 h7 h8 h9
  subst h0; subst h1; subst h2; subst h3; subst h4; subst h5; subst h6; subst h7; subst h8; subst h9
  rfl
def eqNode (x y : S34) : Bool := x.f0 == y.f0 && (x.f1 == y.f1 && (x.f2 == y.f2 && (x.f3 == y.f3 && (x.f4 == y.f4 && (decide (x.f5 = y.f5) && (decide (x.f6 = y.f6) && (decide (x.f7 = y.f7) && (decide (x.f8 = y.f8) && x.f9 == y.f9))))))))
theorem eqNode_iff (x y : S34) : eqNode x y = true ↔ x = y := by
  constructor
  · intro h
    simp only [eqNode, Bool.and_eq_true, beq_iff_eq, decide_eq_true_eq] at h
    obtain ⟨h0, h1, h2, h3, h4, h5, h6, h7, h8, h9⟩ := h
    exact node_ext h0 h1 h2 h3 h4 h5 h6 h7 h8 h9
  · rintro rfl
    simp [eqNode]
def eqNodes : List S34 → List S34 → Bool
  | x :: xs, y :: ys => eqNode x y && eqNodes xs ys
  | [], [] => true
  | _, _ => false
theorem eqNodes_iff : ∀ xs ys, eqNodes xs ys = true ↔ xs = ys
  | x :: xs, y :: ys => by rw [eqNodes, Bool.and_eq_true, eqNode_iff, eqNodes_iff xs ys, List.cons.injEq]
  | [], [] => by simp [eqNodes]
  | [], y :: ys => by simp [eqNodes]
  | x :: xs, [] => by simp [eqNodes]
theorem same_loop (l m : List S34) (hlm : l.length = m.length) (hl : l.length ≤ 1000000000000000) : ∀ (d i k : Nat), l.length - i = d → i ≤ l.length → d < k → trammellaw0_SameNodes.l0 k l m (i : Int) = some (eqNodes (l.drop i) (m.drop i)) := by
  intro d
  induction d with
  | zero =>
    intro i k hd hi hk
    obtain ⟨k, rfl⟩ : ∃ n, k = n + 1 := ⟨k - 1, by omega⟩
    simp only [trammellaw0_SameNodes.l0]
    rw [if_neg (by omega), List.drop_eq_nil_of_le (by omega), List.drop_eq_nil_of_le (by omega)]
    rfl
  | succ d ih =>
    intro i k hd hi hk
    obtain ⟨k, rfl⟩ : ∃ n, k = n + 1 := ⟨k - 1, by omega⟩
    have hlt : i < l.length := by omega
    have hmt : i < m.length := by omega
    simp only [trammellaw0_SameNodes.l0]
    rw [if_pos (by omega), if_pos (by omega), if_pos (by omega), rd_at l i hlt, rd_at m i hmt, List.drop_eq_getElem_cons hlt, List.drop_eq_getElem_cons hmt, eqNodes]
    simp only [toList_beq]
    have e : ∀ x y : S34, (!(x.f0 == y.f0) || (!(x.f1 == y.f1) || (!(x.f2 == y.f2) || (!(x.f3 == y.f3) || (!(x.f4 == y.f4) || (!(decide (x.f5 = y.f5)) || (!(decide (x.f6 = y.f6)) || (!(decide (x.f7 = y.f7)) || (!(decide (x.f8 = y.f8)) || (!(x.f9 == y.f9))))))))))) = !eqNode x y := by
      intro x y
      simp only [eqNode, Bool.not_and]
    rw [e]
    cases eqNode l[i] m[i]
    · simp
    · simp only [Bool.not_true, Bool.false_eq_true, if_false, Bool.true_and]
      rw [wrapS (by omega) (by omega), show ((i : Int) + 1) = ((i + 1 : Nat) : Int) from by omega]
      exact ih (i + 1) k (by omega) (by omega) (by omega)
theorem sameN_is (l m : List S34) (k : Nat) (hk : l.length < k) (hl : l.length ≤ 1000000000000000) : trammellaw0_SameNodes.f k l m = some (eqNodes l m) := by
  unfold trammellaw0_SameNodes.f
  by_cases h : l.length = m.length
  · rw [if_pos (by omega)]
    have := same_loop l m h hl l.length 0 k rfl (Nat.zero_le _) hk
    simpa using this
  · rw [if_neg (by omega)]
    cases he : eqNodes l m
    · rfl
    · exact (h (by rw [(eqNodes_iff l m).1 he])).elim
end Go.Proofs.YtfcjpkkglffnmaaDoor.H

namespace Go.Proofs.YtfcjpkkglffnmaaDoor.H
open Go.RowKit Go.Proofs.YtfcjpkkglffnmaaDoorW.PrintWords Go.Proofs.YtfcjpkkglffnmaaDoorW.PrintLast Go.Proofs.YtfcjpkkglffnmaaDoorW.PrintMore
attribute [local go_sem] max2_int min2_int max_two min_two max_three min_three max_four min_four
set_option linter.unusedVariables false
set_option linter.unusedSimpArgs false
def twiceGo : List ByteArray → List S45 → Bool
  | _, [] => false
  | seen, o :: os => if (seen.any fun s => s.toList == o.f0.toList) = true then true else twiceGo (seen ++ [o.f0]) os
theorem plainElem_bool_inv {H : Type} {P : Program} {e : TypeId} (he : P.underlying e = some .bool) {v : Value} {z : DataW H × List MemPlace} (h : plainElem P e v = some z) : ∃ x, v = .bool x ∧ z = (.lit (.bool x), []) := by
  unfold plainElem at h
  rw [he] at h
  cases v with
  | bool x => exact ⟨x, rfl, (Option.some.inj h).symm⟩
  | _ => simp at h
def seenD (seen : List ByteArray) : DataW Unit := Maps.setOf (.lit (.bool true)) (seen.map fun s => .string s.data.toList)
theorem seenD_snoc (seen : List ByteArray) (s : ByteArray) : seenD (seen ++ [s]) = (seenD seen).put (.string s.data.toList) (.lit (.bool true)) := by
  unfold seenD
  rw [List.map_append, List.map_cons, List.map_nil, Maps.setOf_snoc]
theorem seenD_isMap (seen : List ByteArray) : Maps.IsMap (seenD seen) := (Maps.tidy_setOf _ _ (fun y hy => by obtain ⟨_, _, rfl⟩ := List.mem_map.1 hy; trivial)).isMap
theorem toList_dataQ (s : ByteArray) : s.toList = s.data.toList := by
  exact ByteArray.toList_eq s
theorem seenD_at (s : ByteArray) : ∀ (n : Nat) (seen : List ByteArray), seen.length = n → (seenD seen).atKey (.string s.data.toList) (.lit (.bool false)) = .lit (.bool (seen.any fun t => t.toList == s.toList)) := by
  intro n
  induction n with
  | zero =>
    intro seen h
    obtain rfl := List.length_eq_zero_iff.1 h
    rfl
  | succ n ih =>
    intro seen h
    have hne : seen ≠ [] := by intro e; rw [e] at h; simp at h
    obtain ⟨t, r, hs⟩ : ∃ t r, seen = r ++ [t] := ⟨seen.getLast hne, seen.dropLast, (List.dropLast_concat_getLast hne).symm⟩
    subst hs
    have hr : r.length = n := by simpa using h
    rw [seenD_snoc, List.any_append, List.any_cons, List.any_nil, Bool.or_false]
    by_cases e : t.data.toList = s.data.toList
    · have e2 : (t.toList == s.toList) = true := by rw [toList_dataQ, toList_dataQ, e]; simp
      rw [e, Maps.atKey_put_same (seenD_isMap r) (by simp [WideAt.IsKeyLit]), e2, Bool.or_true]
    · have e2 : (t.toList == s.toList) = false := by rw [toList_dataQ, toList_dataQ]; simpa using e
      rw [Maps.atKey_put_other (fun h2 => e (by injection h2 with h2; exact h2.symm)), ih r hr, e2, Bool.or_false]
theorem lawStr : Maps.Keyed Tryd.prog 9 := Maps.string_keyed Tryd.underlying9
theorem seen_look {w : World} {b n : Nat} {seen : List ByteArray} (h : w.ownsMap Tryd.prog 9 (plainElem (H := Unit) Tryd.prog 4) b n (seenD seen)) (s : ByteArray) (hs : s.size ≤ maxLen) :
    (Instr.lookup 60 (.map (some b)) (.string s) false).run Tryd.prog w = .ok (.bool (seen.any fun t => t.toList == s.toList)) w := by
  obtain ⟨v, ps, hrun, hv⟩ := h.lookup lawStr Tryd.underlying60 (z := .bool false) (by kernel_rfl) (plainElem_bool Tryd.underlying4 false) (WideMaps.keyOf_string_mk Tryd.underlying9 hs)
  obtain ⟨x, rfl, hx⟩ := plainElem_bool_inv Tryd.underlying4 hv
  rw [seenD_at s seen.length seen rfl] at hx
  simp only [Prod.mk.injEq, DataW.lit.injEq, Lit.bool.injEq] at hx
  rw [hrun, ← hx.1]
set_option maxRecDepth 100000 in
set_option maxHeartbeats 8000000 in
theorem twice_calls (A0 : Option Addr) (c0 : Nat) (l0 : List S45) (w : World) (hr0 : Kd.C k45 w A0 l0.length l0) (hl : l0.length ≤ 4) (hsz : ∀ o ∈ l0, o.f0.size ≤ 1000) :
    Calls Tryd.prog 17 #[.slice A0 l0.length c0] w fun e w' => e = .returned (.bool (twiceGo [] l0)) ∧ Below w.heap.size w w' := by
  have HC := Aside0.mk hr0
  have HZ := Aside0.mk hsz
  obtain ⟨r, hr⟩ : ∃ r, twiceGo [] l0 = r := ⟨_, rfl⟩
  rw [hr]
  have H := Aside0.mk hr
  clear hr0 hsz hr
  have hmm := @run_makeMap Tryd.prog
  go_enter Tryd.func17, Tryd.ntmps17
  go_wp2_with fail
  go_loopw [9] (fun v9 wr => ∃ (i : Nat) (seen : List ByteArray), v9 = .int .i64 i ∧ i ≤ l0.length ∧ Aside0 (twiceGo seen (l0.drop i) = r) ∧ Aside0 (wr.ownsMap Tryd.prog 9 (plainElem (H := Unit) Tryd.prog 4) w.heap.size i (seenD seen)) ∧ Aside0 (Below w.heap.size w wr)) (fun v9 _ => l0.length - (intOf v9).toNat)
  case atStart => exact ⟨0, [], rfl, Nat.zero_le _, H, ⟨World.ownsMap_made _ _ _ _⟩, ⟨(Below.refl _ _).alloc (Nat.le_refl _) _⟩⟩
  case round =>
    obtain ⟨i, seen, rfl, hi, HG, HM, HB⟩ := hrel
    clear H
    by_cases hlt : i < l0.length
    · have hcr : Kd.C k45 wr A0 l0.length l0 := Kd.C_below HC.out HB.out
      obtain ⟨ad, e157, hx0, hx1, hx2⟩ := at_T45 hcr i (by omega) (by omega)
      cases e157
      have hxx : l0[i]? = some (rd_T45 l0 i) := by
        rw [List.getElem?_eq_getElem hlt, rd_T45, Int.toNat_natCast, List.getD_eq_getElem?_getD, List.getElem?_eq_getElem hlt]
        rfl
      have hsz : (rd_T45 l0 i).f0.size ≤ 1000 := by
        obtain ⟨h2, h3⟩ := List.getElem?_eq_some_iff.1 hxx
        rw [← h3]
        exact HZ.out _ (List.getElem_mem h2)
      have hg := HG.out
      rw [← hr_dropB hxx, twiceGo] at hg
      have HG2 := Aside0.mk hg
      rw [Int.toNat_natCast] at hx0 hx1 hx2
      generalize rd_T45 l0 i = x at *
      have HM2 := Aside0.mk (HM.out.alloc (.cells #[.string x.f0, .int .i64 x.f1, .int .i64 x.f2] 45))
      have hkey := WideMaps.keyOf_string_mk Tryd.underlying9 (s := x.f0) (by unfold maxLen; omega)
      have HB2 := Aside0.mk (HB.out.alloc HB.out.size (.cells #[.string x.f0, .int .i64 x.f1, .int .i64 x.f2] 45))
      have HL := Aside0.mk (seen_look HM2.out x.f0 (by unfold maxLen; omega))
      have HK := Aside0.mk hkey
      clear hg hxx hcr HG hkey hsz
      cases hb : (seen.any fun t => t.toList == x.f0.toList)
      · have hg := HG2.out
        rw [hb] at hg
        simp only [Bool.false_eq_true, if_false] at hg
        have HG3 := Aside0.mk hg
        have hlook := HL.out
        rw [hb] at hlook
        clear hb hg HG2 HL
        go_wp2_with (at_mapUpdate; refine wpList_mapUpdate_own _ rfl _ _ _ 60 rfl 9 4 lawStr Tryd.underlying60 (plainElem (H := Unit) Tryd.prog 4) w.heap.size i _ rfl HM2.out (by unfold maxLen; omega) _ _ _ rfl rfl HK.out _ [] (plainElem_bool Tryd.underlying4 true) ?_; intro w1 hown1 hgrow1; have HM3 := Aside0.mk hown1; have HGR := Aside0.mk hgrow1; clear hown1 hgrow1)
        go_roundw
        case rel => exact ⟨i + 1, seen ++ [x.f0], by go_num, by omega, HG3, ⟨by rw [seenD_snoc]; exact HM3.out⟩, ⟨HB2.out.grown HGR.out HB2.out.size (fun j hj => by cases hj; exact Nat.le_refl _)⟩⟩
        case measure => simp [intOf]; omega
      · have hg := HG2.out
        rw [hb] at hg
        simp only [if_true] at hg
        subst hg
        have hlook := HL.out
        rw [hb] at hlook
        clear hb HG2 HL
        go_wp2
        go_ret
        exact ⟨rfl, HB2.out⟩
    · have hg := HG.out
      rw [List.drop_eq_nil_of_le (by omega), twiceGo] at hg
      subst hg
      clear HG
      go_wp2
      go_ret
      exact ⟨rfl, HB.out⟩
end Go.Proofs.YtfcjpkkglffnmaaDoor.H

namespace Go.Proofs.YtfcjpkkglffnmaaDoor.H
open Go.RowKit Go.Proofs.YtfcjpkkglffnmaaDoorW.PrintWords Go.Proofs.YtfcjpkkglffnmaaDoorW.PrintLast Go.Proofs.YtfcjpkkglffnmaaDoorW.PrintMore
attribute [local go_sem] max2_int min2_int max_two min_two max_three min_three max_four min_four
set_option linter.unusedVariables false
set_option linter.unusedSimpArgs false
set_option maxHeartbeats 8000000 in
set_option maxRecDepth 100000 in
theorem cloneOps (ad : Addr) (c0 : Nat) (l0 : List (S45)) (w : World) (hr0 : Kd.C k45 w (some ad) l0.length l0) (hlim : l0.length < 4398046511104) :
    Calls Tryd.prog 18 #[.slice (some ad) l0.length c0] w fun e w' => ∃ v0_ : Value, e = .returned (v0_) ∧ Kd.R k45 45 w' w.heap.size (fun _ => True) v0_ l0 ∧ Below w.heap.size w w' := by
  have HR0 := Aside0.mk hr0
  have LMc2 := Aside0.mk hlim
  clear hr0 hlim
  have HB := Aside0.mk (Below.refl w.heap.size w)
  have infoE : (Tryd.prog.info? 45).map (fun i => (i.zero, i.size, i.bytes)) = some (some (.agg #[(.string ⟨#[]⟩), (.int .i64 0), (.int .i64 0)]), 3, 32) := by kernel_rfl
  have hnil := fun w => Lib.run_eql_slice_nil (P := Tryd.prog) w 22 45 (some ad) l0.length c0 0 0 Tryd.underlying22
  go_enter Tryd.func18, Tryd.ntmps18
  go_wp2_with (first | ((with_reducible refine gate_dst (N := 5) rfl ?_); refine Kd.R_lit k45 _ 45 ?hg (N := 5) ?hd (xs := ([] : List ((S45)))) (inner := []) (ok := fun _ => True) (okp := fun _ => True) ?hr ?hp (fun _ hk => hk) trivial (Below.refl _ _) (Nat.le_refl _) (by simp) ?_; (case hd => rfl); (case hg => rfl); (case hr => first | (go_simp; done) | (go_simp; rfl)); (case hp => exact (Reps.none _ _)); intro v296 w3 ho4 hb hg_ hnew_; clear hg_ hnew_; have n0_ := Aside0.mk (Kd.R_lower ho4 (below_size (by repeat (first | (with_reducible first | exact HB.out | apply below_alloc | apply pw_below_drewN | apply below_drew1) | exact HB.out)))); have n1_ := Aside0.mk (below_step (by repeat (first | (with_reducible first | exact HB.out | apply below_alloc | apply pw_below_drewN | apply below_drew1) | exact HB.out)) hb); clear HB; have HO297 := n0_; have HB := n1_; clear n0_ n1_; clear hb ho4) | ((with_reducible refine gate_builtin (b := .append) (xs := #[.tmp 5, .tmp 6]) rfl ?_); at_builtin; refine Kd.R_append_rows k45 (w0 := w) w.heap.size rfl (.tmp 5) (.tmp 6) 22 45 (.agg #[(.string ⟨#[]⟩), (.int .i64 0), (.int .i64 0)]) 32 rfl Tryd.underlying22 infoE rfl (by decide) (by omega) v296 [] l0 _ _ _ (fun _ => True) (fun _ => False) rfl rfl ?aO ?aR (fun _ _ h => h) (fun _ h => h.elim) ?aF ?aB ?aS ?aL ?_; (case aR => repeat (first | exact (Kd.C_below HR0.out HB.out) | (with_reducible refine Kd.C_alloc ?_ _) | (with_reducible refine Kd.C_drewN ?_ _) | (with_reducible refine Kd.C_drew ?_))); (case aB => exact (by repeat (first | (with_reducible first | exact HB.out | apply below_alloc | apply pw_below_drewN | apply below_drew1) | exact HB.out))); (case aF => exact (fun _ _ => trivial)); (case aO => exact (by (with_reducible repeat (first | apply Kd.R_alloc | apply Kd.R_drewN | apply Kd.R_drew)); exact HO297.out)); (case aS => exact (below_size (by repeat (first | (with_reducible first | exact HB.out | apply below_alloc | apply pw_below_drewN | apply below_drew1) | exact HB.out)))); (case aL => have := LMc2.out; simp; omega); intro v299 w5 ho hb hg hat; rw [List.nil_append] at ho; have n0_ := Aside0.mk (hb); have n1_ := Aside0.mk (ho); clear HB; clear HO297; have HB := n0_; have HO300 := n1_; clear n0_ n1_; clear ho hb hg hat))
  go_ret
  exact ⟨_, rfl, by (with_reducible repeat (first | apply Kd.R_alloc | apply Kd.R_drewN | apply Kd.R_drew)); exact HO300.out, by repeat (first | (with_reducible first | exact HB.out | apply below_alloc | apply pw_below_drewN | apply below_drew1) | exact HB.out)⟩
set_option maxHeartbeats 8000000 in
set_option maxRecDepth 100000 in
theorem cloneOps_nil (c0 : Nat) (w : World) :
    Calls Tryd.prog 18 #[.slice none 0 c0] w fun e w' => e = .returned (.slice none 0 0) ∧ Below w.heap.size w w' := by
  have hnil := fun w => Lib.run_eql_slice_nil (P := Tryd.prog) w 22 45 none 0 c0 0 0 Tryd.underlying22
  go_enter Tryd.func18, Tryd.ntmps18
  go_wp2
  go_ret
  exact ⟨rfl, Below.refl _ _⟩
theorem cloneOps_any (A0 : Option Addr) (c0 : Nat) (l0 : List (S45)) (w : World) (hr0 : Kd.C k45 w A0 l0.length l0) (hlim : l0.length < 4398046511104) :
    Calls Tryd.prog 18 #[.slice A0 l0.length c0] w fun e w' => ∃ v0_ : Value, e = .returned (v0_) ∧ Kd.R k45 45 w' w.heap.size (fun _ => True) v0_ l0 ∧ Below w.heap.size w w' := by
  cases A0 with
  | some ad => exact cloneOps ad c0 l0 w hr0 hlim
  | none =>
    have hl : l0 = [] := by
      rcases Nat.eq_zero_or_pos l0.length with h | h
      · exact List.length_eq_zero_iff.1 h
      · obtain ⟨ad, e, _⟩ := hr0.2.2 h
        cases e
    subst hl
    exact (cloneOps_nil c0 w).mono fun e w' ⟨he, hb⟩ => ⟨_, he, Kd.R_nil _ _ _ _ _, hb⟩
end Go.Proofs.YtfcjpkkglffnmaaDoor.H

namespace Go.Proofs.YtfcjpkkglffnmaaDoor.H
open Go.RowKit Go.Proofs.YtfcjpkkglffnmaaDoorW.PrintWords Go.Proofs.YtfcjpkkglffnmaaDoorW.PrintLast Go.Proofs.YtfcjpkkglffnmaaDoorW.PrintMore
attribute [local go_sem] max2_int min2_int max_two min_two max_three min_three max_four min_four
set_option linter.unusedVariables false
set_option linter.unusedSimpArgs false
set_option maxHeartbeats 8000000 in
set_option maxRecDepth 100000 in
theorem clone_calls (ad : Addr) (c0 : Nat) (l0 : List S34) (w : World) (hr0 : Kd.C k34 w (some ad) l0.length l0) (hlim : l0.length < 1256584717458) :
    Calls Tryd.prog 19 #[.slice (some ad) l0.length c0] w fun e w' => ∃ v0_ : Value, e = .returned (v0_) ∧ Kd.R k34 34 w' w.heap.size (fun _ => True) v0_ l0 ∧ Below w.heap.size w w' := by
  have HR0 := Aside0.mk hr0
  have LMc2 := Aside0.mk hlim
  clear hr0 hlim
  have HB := Aside0.mk (Below.refl w.heap.size w)
  have info45 : (Tryd.prog.info? 34).map (fun i => (i.zero, i.size, i.bytes)) = some (some (.agg #[(.int .i64 0), (.int .i64 0), (.int .i64 0), (.int .i64 0), (.int .i64 0), (.string ⟨#[]⟩), (.string ⟨#[]⟩), (.string ⟨#[]⟩), (.string ⟨#[]⟩), (.int .i64 0)]), 10, 112) := by kernel_rfl
  have hnil := fun w => Lib.run_eql_slice_nil (P := Tryd.prog) w 23 34 (some ad) l0.length c0 0 0 Tryd.underlying23
  go_enter Tryd.func19, Tryd.ntmps19
  go_wp2_with (first | ((with_reducible refine gate_dst (N := 5) rfl ?_); refine Kd.R_lit k34 _ 34 ?hg (N := 5) ?hd (xs := ([] : List (S34))) (inner := []) (ok := fun _ => True) (okp := fun _ => True) ?hr ?hp (fun _ hk => hk) trivial (Below.refl _ _) (Nat.le_refl _) (by simp) ?_; (case hd => rfl); (case hg => rfl); (case hr => first | (go_simp; done) | (go_simp; rfl)); (case hp => exact (Reps.none _ _)); intro v296 w3 ho4 hb hg_ hnew_; clear hg_ hnew_; have n0_ := Aside0.mk (Kd.R_lower ho4 (below_size (by repeat (first | (with_reducible first | exact HB.out | apply below_alloc | apply pw_below_drewN | apply below_drew1) | exact HB.out)))); have n1_ := Aside0.mk (below_step (by repeat (first | (with_reducible first | exact HB.out | apply below_alloc | apply pw_below_drewN | apply below_drew1) | exact HB.out)) hb); clear HB; have HO297 := n0_; have HB := n1_; clear n0_ n1_; clear hb ho4) | ((with_reducible refine gate_builtin (b := .append) (xs := #[.tmp 5, .tmp 6]) rfl ?_); at_builtin; refine Kd.R_append_rows k34 (w0 := w) w.heap.size rfl (.tmp 5) (.tmp 6) 23 34 (.agg #[(.int .i64 0), (.int .i64 0), (.int .i64 0), (.int .i64 0), (.int .i64 0), (.string ⟨#[]⟩), (.string ⟨#[]⟩), (.string ⟨#[]⟩), (.string ⟨#[]⟩), (.int .i64 0)]) 112 rfl Tryd.underlying23 info45 rfl (by decide) (by omega) v296 [] l0 _ _ _ (fun _ => True) (fun _ => False) rfl rfl ?aO ?aR (fun _ _ h => h) (fun _ h => h.elim) ?aF ?aB ?aS ?aL ?_; (case aR => repeat (first | exact (Kd.C_below HR0.out HB.out) | (with_reducible refine Kd.C_alloc ?_ _) | (with_reducible refine Kd.C_drewN ?_ _) | (with_reducible refine Kd.C_drew ?_))); (case aB => exact (by repeat (first | (with_reducible first | exact HB.out | apply below_alloc | apply pw_below_drewN | apply below_drew1) | exact HB.out))); (case aF => exact (fun _ _ => trivial)); (case aO => exact (by (with_reducible repeat (first | apply Kd.R_alloc | apply Kd.R_drewN | apply Kd.R_drew)); exact HO297.out)); (case aS => exact (below_size (by repeat (first | (with_reducible first | exact HB.out | apply below_alloc | apply pw_below_drewN | apply below_drew1) | exact HB.out)))); (case aL => have := LMc2.out; simp; omega); intro v299 w5 ho hb hg hat; rw [List.nil_append] at ho; have n0_ := Aside0.mk (hb); have n1_ := Aside0.mk (ho); clear HB; clear HO297; have HB := n0_; have HO300 := n1_; clear n0_ n1_; clear ho hb hg hat))
  go_ret
  exact ⟨_, rfl, by (with_reducible repeat (first | apply Kd.R_alloc | apply Kd.R_drewN | apply Kd.R_drew)); exact HO300.out, by repeat (first | (with_reducible first | exact HB.out | apply below_alloc | apply pw_below_drewN | apply below_drew1) | exact HB.out)⟩
end Go.Proofs.YtfcjpkkglffnmaaDoor.H

namespace Go.Proofs.YtfcjpkkglffnmaaDoor.H
open Go.RowKit Go.Proofs.YtfcjpkkglffnmaaDoorW.PrintWords Go.Proofs.YtfcjpkkglffnmaaDoorW.PrintLast Go.Proofs.YtfcjpkkglffnmaaDoorW.PrintMore
attribute [local go_sem] max2_int min2_int max_two min_two max_three min_three max_four min_four
set_option linter.unusedVariables false
set_option linter.unusedSimpArgs false
def slices_Reverse_string_string.l0 : Nat → List ByteArray → Int → Int → Option (List ByteArray)
  | 0, _, _, _ => none
  | k + 1, x0, x2, x3 => if x2 < x3 then (if 0 ≤ x3 then (if x3 < (x0.length : Int) then (if 0 ≤ x2 then (if x2 < (x0.length : Int) then (slices_Reverse_string_string.l0 k ((x0.set (x2 : Int).toNat (rdOf ByteArray.empty x0 x3)).set (x3 : Int).toNat (rdOf ByteArray.empty x0 x2)) (wrap64 (x2 + 1)) (wrap64 (x3 - 1))) else (none)) else (none)) else (none)) else (none)) else (some x0)
def slices_Reverse_string_string.f (k : Nat) (l0 : List ByteArray) : Option (List ByteArray) := slices_Reverse_string_string.l0 k l0 0 (wrap64 ((l0.length : Int) - 1))
def slices_Reverse_string_string.T3 : Bool × List (List Nat × List Nat) := (true, [([], []), ([], []), ([], []), ([], []), ([], []), ([], []), ([4, 5], [4, 5]), ([6], [6]), ([], []), ([], []), ([8, 9], [8, 9]), ([10], [10]), ([0, 1, 0, 1, 4, 5, 6, 7, 11], [0, 1]), ([12, 7, 0, 1, 4, 5, 6, 7, 11], [7, 12]), ([2, 3, 0, 1, 2, 3, 4, 5, 6, 7, 8, 9, 10, 11, 12, 13], [2, 3]), ([14, 11, 13, 0, 1, 2, 3, 4, 5, 6, 7, 8, 9, 10, 11, 12, 13], [11, 14])])
def slices_Reverse_string_string.B3 : List Nat := [0, 0, 0, 0, 0, 0, 48, 112, 0, 0, 768, 1792, 4083, 8179, 16383, 32767]
theorem slices_Reverse_string_string.tab3 : rtab .any (opsOf Tryd.f27 3) = slices_Reverse_string_string.T3 := by kernel_rfl
theorem slices_Reverse_string_string.bits3 : waitsOk slices_Reverse_string_string.T3.2 slices_Reverse_string_string.B3 = true := by kernel_rfl
set_option maxHeartbeats 8000000 in
set_option maxRecDepth 100000 in
theorem slices_Reverse_string_string.calls (k : Nat) (P0_ : Nat → Prop) (u9000_ : Value) (l0 : List ByteArray) (r : List ByteArray) (w0 w : World) (hB : Below w0.heap.size w0 w) (ho0 : Kd.R Kd.string 9 w w0.heap.size P0_ u9000_ l0) (h : slices_Reverse_string_string.f k l0 = some r) :
    Calls Tryd.prog 27 #[u9000_] w fun e w' => e = .returned (.tuple #[]) ∧ Kd.R Kd.string 9 w' w0.heap.size (fun k_ => (P0_ k_ ∨ w.heap.size ≤ k_)) u9000_ r ∧ Below w0.heap.size w0 w' ∧ Kept w w' (fun k_ => P0_ k_) := by
  have HO0 := Aside0.mk (show Kd.R Kd.string 9 w w0.heap.size (fun k_ => (P0_ k_ ∨ w.heap.size ≤ k_)) u9000_ l0 from Kd.R_mono ho0 (fun k_ hk => (.inl hk)))
  have HK := Aside0.mk (Kept.refl w (fun k_ => P0_ k_))
  have HW0 := Aside0.mk hB.size
  have HB := Aside0.mk hB
  clear hB
  have H : (slices_Reverse_string_string.l0 k l0 0 (wrap64 ((l0.length : Int) - 1))) = some r := h
  clear h
  have H' := Aside0.mk H
  clear H
  obtain ⟨Ao2, co2, eo2⟩ := Kd.R_slice HO0.out
  subst eo2
  go_enter Tryd.func27, Tryd.ntmps27
  go_wp2
  go_loopg [2, 3] k (fun kq v2 v3 w' => ∃ (x0_1 : List ByteArray) (x2_1 : Int) (x3_1 : Int), v2 = .int .i64 x2_1 ∧ v3 = .int .i64 x3_1 ∧ Aside0 (slices_Reverse_string_string.l0 kq x0_1 x2_1 x3_1 = some r) ∧ Aside0 (kq ≤ k) ∧ Aside0 (Kd.R Kd.string 9 w' w0.heap.size (fun k_ => (P0_ k_ ∨ w.heap.size ≤ k_)) (.slice Ao2 l0.length co2) x0_1) ∧ Aside0 (Kept w w' (fun k_ => P0_ k_)) ∧ Aside0 (Below w0.heap.size w0 w'))
  case atStart => exact ⟨(l0), (0), (wrap64 ((l0.length : Int) - 1)), (by first | rfl | (simp; done) | (simp [*]; done)), (by first | rfl | (simp; done) | (simp [*]; done)), H', ⟨Nat.le_refl _⟩, ⟨by (with_reducible repeat (first | apply Kd.R_alloc | apply Kd.R_drewN | apply Kd.R_drew)); exact HO0.out⟩, ⟨by repeat (first | (with_reducible first | exact HK.out | apply Kept.alloc | apply Kept.drewN | apply Kept.drew) | exact HK.out)⟩, ⟨by repeat (first | (with_reducible first | exact HB.out | apply below_alloc | apply pw_below_drewN | apply below_drew1) | exact HB.out)⟩⟩
  case round =>
    clear H'
    try clear c2
    try clear p2
    obtain ⟨x0_1, x2_1, x3_1, rfl, rfl, HA, HK1, HO_0, HK, HB⟩ := hrel
    have hl0_1 := (Kd.R_reads' HO_0.out).1
    rw [hl0_1] at HO_0
    (try simp only [hl0_1])
    cases gk with
    | zero => exact absurd HA.out (by simp [slices_Reverse_string_string.l0])
    | succ k1 =>
      have H := HA.out
      clear HA
      simp only [slices_Reverse_string_string.l0] at H
      by_cases c3 : x2_1 < x3_1
      · rw [if_pos c3] at H
        have c3b0 : decide (x2_1 < x3_1) = true := decide_eq_true c3
        clear c3
        by_cases c4 : 0 ≤ x3_1
        · rw [if_pos c4] at H
          have c4b0 : decide (0 ≤ x3_1) = true := decide_eq_true c4
          clear c4
          by_cases c5 : x3_1 < (x0_1.length : Int)
          · rw [if_pos c5] at H
            have c5b0 : decide (x3_1 < (x0_1.length : Int)) = true := decide_eq_true c5
            clear c5
            by_cases c6 : 0 ≤ x2_1
            · rw [if_pos c6] at H
              have c6b0 : decide (0 ≤ x2_1) = true := decide_eq_true c6
              clear c6
              by_cases c7 : x2_1 < (x0_1.length : Int)
              · rw [if_pos c7] at H
                have c7b0 : decide (x2_1 < (x0_1.length : Int)) = true := decide_eq_true c7
                clear c7
                obtain ⟨y158, hy158⟩ : ∃ y_ : List ByteArray, y_ = (x0_1.set (x2_1 : Int).toNat (rdOf ByteArray.empty x0_1 x3_1)) := ⟨_, rfl⟩
                replace H : (slices_Reverse_string_string.l0 k1 (y158.set (x3_1 : Int).toNat (rdOf ByteArray.empty x0_1 x2_1)) (wrap64 (x2_1 + 1)) (wrap64 (x3_1 - 1))) = some r := by first | (rw [hy158]; with_reducible exact H) | (have H2_ := (Option.bind_some _ _).symm.trans H; rw [hy158]; with_reducible exact H2_) | (have H2_ := (Option.bind_some _ _).symm.trans H; with_reducible exact H2_) | with_reducible exact H | (rw [hy158]; exact H) | exact H
                have Ny158 := Aside0.mk hy158
                clear hy158
                obtain ⟨y159, hy159⟩ : ∃ y_ : List ByteArray, y_ = (y158.set (x3_1 : Int).toNat (rdOf ByteArray.empty x0_1 x2_1)) := ⟨_, rfl⟩
                replace H : (slices_Reverse_string_string.l0 k1 y159 (wrap64 (x2_1 + 1)) (wrap64 (x3_1 - 1))) = some r := by first | (rw [hy159]; with_reducible exact H) | (have H2_ := (Option.bind_some _ _).symm.trans H; rw [hy159]; with_reducible exact H2_) | (have H2_ := (Option.bind_some _ _).symm.trans H; with_reducible exact H2_) | with_reducible exact H | (rw [hy159]; exact H) | exact H
                have Ny159 := Aside0.mk hy159
                clear hy159
                have H' := Aside0.mk H
                clear H
                try go_wp2
                have n0_ := Aside0.mk (Kd.R_drew HO_0.out)
                have n1_ := Aside0.mk (Kept.drew HK.out)
                have n2_ := Aside0.mk (below_drew1 HB.out)
                clear HO_0
                clear HK
                clear HB
                have HO_0 := n0_
                have HK := n1_
                have HB := n2_
                clear n0_ n1_ n2_
                have p156 : 0 ≤ (x3_1 : Int) := of_decide_eq_true (by first | (with_reducible assumption) | assumption)
                have q156 : x3_1 < (x0_1.length : Int) := of_decide_eq_true (by first | (with_reducible assumption) | assumption)
                obtain ⟨ad156, e156, hx156_0⟩ := Kd.at_string (Kd.R_reads' HO_0.out).2.2 x3_1 p156 q156
                cases e156
                replace p156 := eq_true p156
                replace q156 := eq_true q156
                have p157 : 0 ≤ (x2_1 : Int) := of_decide_eq_true (by first | (with_reducible assumption) | assumption)
                have q157 : x2_1 < (x0_1.length : Int) := of_decide_eq_true (by first | (with_reducible assumption) | assumption)
                obtain ⟨ad157, e157, hx157_0⟩ := Kd.at_string (Kd.R_reads' HO_0.out).2.2 x2_1 p157 q157
                obtain rfl : ad156 = ad157 := (by injection e157)
                replace p157 := eq_true p157
                replace q157 := eq_true q157
                have p8 : 0 ≤ (x2_1 : Int) := of_decide_eq_true (by first | (with_reducible assumption) | assumption)
                have q8 : (x2_1 : Int) < ((x0_1.length : Int) : Int) := of_decide_eq_true (by first | (with_reducible assumption) | assumption)
                obtain ⟨go8, co8, eo8, gb8, gl8, cl8, HG8⟩ := Kd.R_form HO_0.out (by omega)
                (first | cases eo8 | (injection eo8 with ea_ en_ ec_; (first | subst ea_ | (injection ea_ with ea_; subst ea_)); subst ec_; clear en_))
                have GB8 := Aside0.mk gb8
                have GG8 := Aside0.mk HG8
                clear gb8 gl8 HG8
                have HMgo8 := Aside0.mk (show (P0_ go8 ∨ w.heap.size ≤ go8) from (HO_0.out.1 _ rfl))
                (first | simp only [add_plain] at hx156_0 | skip)
                (first | simp only [add_plain] at hx157_0 | skip)
                obtain ⟨hx8_0, hf8_0⟩ := Kd.R_celln (⟨#[]⟩ : ByteArray) HO_0.out (x2_1 : Int) p8 q8
                replace p8 := eq_true p8
                replace q8 := eq_true q8
                have HP11 := Kd.R_putn HO_0.out (x2_1 : Int) (rdOf ByteArray.empty x0_1 x3_1)
                rw [← Ny158.out] at HP11
                have HQ11 := Aside0.mk HP11
                clear HP11
                have p9 : 0 ≤ (x3_1 : Int) := of_decide_eq_true (by first | (with_reducible assumption) | assumption)
                have q9 : (x3_1 : Int) < ((x0_1.length : Int) : Int) := of_decide_eq_true (by first | (with_reducible assumption) | assumption)
                obtain ⟨hx9_0, hf9_0⟩ := Kd.R_celln (⟨#[]⟩ : ByteArray) HQ11.out (x3_1 : Int) p9 q9
                replace p9 := eq_true p9
                replace q9 := eq_true q9
                have HP12 := Kd.R_putn HQ11.out (x3_1 : Int) (rdOf ByteArray.empty x0_1 x2_1)
                rw [← Ny159.out] at HP12
                have HQ12 := Aside0.mk HP12
                clear HP12
                refine start_ (n := 16) (S := fun w' => w'.cell? ⟨go8, (x3_1).toNat, none⟩ = some (.string (rdOf ByteArray.empty x0_1 x3_1)) ∧ w'.cell? ⟨go8, (x2_1).toNat, none⟩ = some (.string (rdOf ByteArray.empty x0_1 x2_1))) (ds := [13, 15]) #[false, false, false, false, false, false, false, false, false, false, false, false, false, false, false, false] (by kernel_rfl) rfl rfl ⟨hx156_0, hx157_0⟩ (fun hHeld => ?_); refine with_tabW slices_Reverse_string_string.tab3 slices_Reverse_string_string.bits3 (fun HT_ HW_ => ?_)
                generalize wr.drew = w10 at HO_0 HK HB GG8 HQ11 HQ12 hf8_0 hf9_0 hx156_0 hx157_0 hx8_0 hx9_0 hHeld ⊢
                refine pure_ (i := 0) (N := some 14) (v := ?_) (a' := ?_) #[true, false, false, false, false, false, false, false, false, false, false, false, false, false, false, false] rfl rfl (any_of HT_.out (by kernel_rfl)) (fun _ _ _ h => h) (Or.inl ⟨by rfl, ?_⟩) ?_ ?_
                rotate_left
                · intro w'
                  go_simp
                  with_reducible rfl
                rotate_left
                · simp only [Act.put, List.setIfInBounds_toArray, List.set_cons_zero, List.set_cons_succ, i64_w, i32_w]
                  rfl
                refine pure_ (i := 1) (N := some 15) (v := ?_) (a' := ?_) #[true, true, false, false, false, false, false, false, false, false, false, false, false, false, false, false] rfl rfl (any_of HT_.out (by kernel_rfl)) (fun _ _ _ h => h) (Or.inl ⟨by rfl, ?_⟩) ?_ ?_
                rotate_left
                · intro w'
                  go_simp
                  with_reducible rfl
                rotate_left
                · simp only [Act.put, List.setIfInBounds_toArray, List.set_cons_zero, List.set_cons_succ, i64_w, i32_w]
                  rfl
                refine pure_ (i := 2) (N := some 16) (v := ?_) (a' := ?_) #[true, true, true, false, false, false, false, false, false, false, false, false, false, false, false, false] rfl rfl (any_of HT_.out (by kernel_rfl)) (fun _ _ _ h => h) (Or.inl ⟨by rfl, ?_⟩) ?_ ?_
                rotate_left
                · intro w'
                  go_simp
                  with_reducible rfl
                rotate_left
                · simp only [Act.put, List.setIfInBounds_toArray, List.set_cons_zero, List.set_cons_succ, i64_w, i32_w]
                  rfl
                refine pure_ (i := 3) (N := some 17) (v := ?_) (a' := ?_) #[true, true, true, true, false, false, false, false, false, false, false, false, false, false, false, false] rfl rfl (any_of HT_.out (by kernel_rfl)) (fun _ _ _ h => h) (Or.inl ⟨by rfl, ?_⟩) ?_ ?_
                rotate_left
                · intro w'
                  go_simp
                  with_reducible rfl
                rotate_left
                · simp only [Act.put, List.setIfInBounds_toArray, List.set_cons_zero, List.set_cons_succ, i64_w, i32_w]
                  rfl
                refine pure_ (i := 4) (N := some 18) (v := ?_) (a' := ?_) #[true, true, true, true, true, false, false, false, false, false, false, false, false, false, false, false] rfl rfl (any_of HT_.out (by kernel_rfl)) (fun _ _ _ h => h) (Or.inl ⟨by rfl, ?_⟩) ?_ ?_
                rotate_left
                · intro w'
                  go_simp
                  with_reducible rfl
                rotate_left
                · simp only [Act.put, List.setIfInBounds_toArray, List.set_cons_zero, List.set_cons_succ, i64_w, i32_w]
                  rfl
                refine pure_ (i := 5) (N := some 19) (v := ?_) (a' := ?_) #[true, true, true, true, true, true, false, false, false, false, false, false, false, false, false, false] rfl rfl (any_of HT_.out (by kernel_rfl)) (fun _ _ _ h => h) (Or.inl ⟨by rfl, ?_⟩) ?_ ?_
                rotate_left
                · intro w'
                  go_simp
                  with_reducible rfl
                rotate_left
                · simp only [Act.put, List.setIfInBounds_toArray, List.set_cons_zero, List.set_cons_succ, i64_w, i32_w]
                  rfl
                refine pure_ (i := 6) (N := some 20) (v := ?_) (a' := ?_) #[true, true, true, true, true, true, true, false, false, false, false, false, false, false, false, false] rfl rfl (any_of HT_.out (by kernel_rfl)) (fun _ _ _ h => h) (Or.inl ⟨by rfl, ?_⟩) ?_ ?_
                rotate_left
                · intro w'
                  go_simp
                  with_reducible rfl
                rotate_left
                · simp only [Act.put, List.setIfInBounds_toArray, List.set_cons_zero, List.set_cons_succ, i64_w, i32_w]
                  rfl
                refine pure_ (i := 8) (N := some 22) (v := ?_) (a' := ?_) #[true, true, true, true, true, true, true, false, true, false, false, false, false, false, false, false] rfl rfl (any_of HT_.out (by kernel_rfl)) (fun _ _ _ h => h) (Or.inl ⟨by rfl, ?_⟩) ?_ ?_
                rotate_left
                · intro w'
                  go_simp
                  with_reducible rfl
                rotate_left
                · simp only [Act.put, List.setIfInBounds_toArray, List.set_cons_zero, List.set_cons_succ, i64_w, i32_w]
                  rfl
                refine pure_ (i := 9) (N := some 23) (v := ?_) (a' := ?_) #[true, true, true, true, true, true, true, false, true, true, false, false, false, false, false, false] rfl rfl (any_of HT_.out (by kernel_rfl)) (fun _ _ _ h => h) (Or.inl ⟨by rfl, ?_⟩) ?_ ?_
                rotate_left
                · intro w'
                  go_simp
                  with_reducible rfl
                rotate_left
                · simp only [Act.put, List.setIfInBounds_toArray, List.set_cons_zero, List.set_cons_succ, i64_w, i32_w]
                  rfl
                refine pure_ (i := 10) (N := some 24) (v := ?_) (a' := ?_) #[true, true, true, true, true, true, true, false, true, true, true, false, false, false, false, false] rfl rfl (any_of HT_.out (by kernel_rfl)) (fun _ _ _ h => h) (Or.inl ⟨by rfl, ?_⟩) ?_ ?_
                rotate_left
                · intro w'
                  go_simp
                  with_reducible rfl
                rotate_left
                · simp only [Act.put, List.setIfInBounds_toArray, List.set_cons_zero, List.set_cons_succ, i64_w, i32_w]
                  rfl
                refine take_ (i := 7) (N := some 21) (v := ?_) (a' := ?_) #[true, true, true, true, true, true, true, true, true, true, true, false, false, false, false, false] rfl rfl (take_ofW HT_.out HW_.out (by kernel_rfl)) (fun _ _ _ h => h) (Or.inl ⟨by rfl, ?_⟩) hHeld ?_ ?_
                rotate_left
                · rintro w' ⟨s0, s1⟩
                  go_simp
                  with_reducible rfl
                rotate_left
                · simp only [Act.put, List.setIfInBounds_toArray, List.set_cons_zero, List.set_cons_succ, i64_w, i32_w]
                  rfl
                refine take_ (i := 11) (N := some 25) (v := ?_) (a' := ?_) #[true, true, true, true, true, true, true, true, true, true, true, true, false, false, false, false] rfl rfl (take_ofW HT_.out HW_.out (by kernel_rfl)) (fun _ _ _ h => h) (Or.inl ⟨by rfl, ?_⟩) hHeld ?_ ?_
                rotate_left
                · rintro w' ⟨s0, s1⟩
                  go_simp
                  with_reducible rfl
                rotate_left
                · simp only [Act.put, List.setIfInBounds_toArray, List.set_cons_zero, List.set_cons_succ, i64_w, i32_w]
                  rfl
                refine pure_ (i := 12) (N := some 26) (v := ?_) (a' := ?_) #[true, true, true, true, true, true, true, true, true, true, true, true, true, false, false, false] rfl rfl (any_of HT_.out (by kernel_rfl)) (fun _ _ _ h => h) (Or.inl ⟨by rfl, ?_⟩) ?_ ?_
                rotate_left
                · intro w'
                  go_simp
                  with_reducible rfl
                rotate_left
                · simp only [Act.put, List.setIfInBounds_toArray, List.set_cons_zero, List.set_cons_succ, i64_w, i32_w]
                  rfl
                refine last_ (i := 13) (N := none) #[true, true, true, true, true, true, true, true, true, true, true, true, true, true, false, false] rfl rfl (one_of HT_.out (by kernel_rfl)) (by decide) (fun K hK => ?_)
                refine skip_ (w1 := ?_) (by rfl) rfl ?_ ?_
                rotate_left
                · go_simp
                  rfl
                refine hK.out _ _ ?_
                clear hK K
                refine pure_ (i := 14) (N := some 27) (v := ?_) (a' := ?_) #[true, true, true, true, true, true, true, true, true, true, true, true, true, true, true, false] rfl rfl (any_of HT_.out (by kernel_rfl)) (fun _ _ _ h => h) (Or.inl ⟨by rfl, ?_⟩) ?_ ?_
                rotate_left
                · intro w'
                  go_simp
                  with_reducible rfl
                rotate_left
                · simp only [Act.put, List.setIfInBounds_toArray, List.set_cons_zero, List.set_cons_succ, i64_w, i32_w]
                  rfl
                refine last_ (i := 15) (N := none) #[true, true, true, true, true, true, true, true, true, true, true, true, true, true, true, true] rfl rfl (one_of HT_.out (by kernel_rfl)) (by decide) (fun K hK => ?_)
                refine skip_ (w1 := ?_) (by rfl) rfl ?_ ?_
                rotate_left
                · go_simp
                  rfl
                refine hK.out _ _ ?_
                clear hK K
                refine done_ (done_of HT_.out (by kernel_rfl)) ?_
                try go_wp2
                (try simp only [← hl0_1])
                go_roundg k1
                case measure => have := HK1.out; omega
                case rel => exact ⟨(y159), (wrap64 (x2_1 + 1)), (wrap64 (x3_1 - 1)), (by first | rfl | (simp; done) | (simp [*]; done)), (by first | rfl | (simp; done) | (simp [*]; done)), H', ⟨by have := HK1.out; omega⟩, ⟨by (try simp only [hl0_1]); (with_reducible repeat (first | apply Kd.R_alloc | apply Kd.R_drewN | apply Kd.R_drew)); exact HQ12.out⟩, ⟨by repeat (first | (with_reducible first | exact HK.out | apply Kept.alloc | apply Kept.drewN | apply Kept.drew | refine Kept.setCell ?_ HMgo8.out _ | refine Kept.setCell ?_ HMgo8.out _) | exact HK.out)⟩, ⟨by repeat (first | (with_reducible first | exact HB.out | apply below_alloc | apply pw_below_drewN | apply below_drew1 | refine below_set ?_ GB8.out | refine below_set ?_ GB8.out) | exact HB.out)⟩⟩
              · rw [if_neg c7] at H
                exact absurd H (by simp)
            · rw [if_neg c6] at H
              exact absurd H (by simp)
          · rw [if_neg c5] at H
            exact absurd H (by simp)
        · rw [if_neg c4] at H
          exact absurd H (by simp)
      · rw [if_neg c3] at H
        have c3b0 : decide (x2_1 < x3_1) = false := decide_eq_false c3
        clear c3
        obtain rfl := Option.some.inj H
        go_wp2
        first | go_end0 | ((try simp only [Exit.inBlock, Exit.then]); refine bodyPost_ret (results_none rfl _ _ _) rfl ?_)
        exact ⟨by first | rfl | (simp [errW_none, errW_some] <;> rfl) | (simp [*, errW_none, errW_some] <;> rfl), (by first | exact (by (with_reducible repeat (first | apply Kd.R_alloc | apply Kd.R_drewN | apply Kd.R_drew)); exact HO_0.out) | (simp only [hl0_1]; exact (by (with_reducible repeat (first | apply Kd.R_alloc | apply Kd.R_drewN | apply Kd.R_drew)); exact HO_0.out))), by repeat (first | (with_reducible first | exact HB.out | apply below_alloc | apply pw_below_drewN | apply below_drew1) | exact HB.out), by repeat (first | (with_reducible first | exact HK.out | apply Kept.alloc | apply Kept.drewN | apply Kept.drew) | exact HK.out)⟩
end Go.Proofs.YtfcjpkkglffnmaaDoor.H

namespace Go.Proofs.YtfcjpkkglffnmaaDoor.H
open Go.RowKit Go.Proofs.YtfcjpkkglffnmaaDoorW.PrintWords Go.Proofs.YtfcjpkkglffnmaaDoorW.PrintLast Go.Proofs.YtfcjpkkglffnmaaDoorW.PrintMore
attribute [local go_sem] max2_int min2_int max_two min_two max_three min_three max_four min_four
set_option linter.unusedVariables false
set_option linter.unusedSimpArgs false
def bindsOf (kind : Int) : Int × Int × Int := if kind = 3 then (1, 0, 0) else if kind = 5 then (0, 1, 0) else if kind = 6 then (2, 1, 0) else if kind = 10 then (0, 2, 1) else (0, 0, 0)
set_option maxRecDepth 100000 in
set_option maxHeartbeats 4000000 in
theorem binds_calls (kind : Int) (w : World) :
    Calls Tryd.prog 40 #[.int .i64 kind] w fun e w' => e = .returned (.agg #[.int .i64 (bindsOf kind).1, .int .i64 (bindsOf kind).2.1, .int .i64 (bindsOf kind).2.2]) ∧ Below w.heap.size w w' := by
  by_cases c3 : kind = 3
  · subst c3
    go_enter Tryd.func40, Tryd.ntmps40
    go_wp2
    exact bodyPost_ret (v := .agg #[.int .i64 1, .int .i64 0, .int .i64 0]) (by simp [results, Tryd.results40, go_sem]) rfl ⟨rfl, (Below.refl _ _).alloc (Nat.le_refl _) _⟩
  · skip
    by_cases c5 : kind = 5
    · subst c5
      go_enter Tryd.func40, Tryd.ntmps40
      go_wp2
      exact bodyPost_ret (v := .agg #[.int .i64 0, .int .i64 1, .int .i64 0]) (by simp [results, Tryd.results40, go_sem]) rfl ⟨rfl, (Below.refl _ _).alloc (Nat.le_refl _) _⟩
    · skip
      by_cases c6 : kind = 6
      · subst c6
        go_enter Tryd.func40, Tryd.ntmps40
        go_wp2
        exact bodyPost_ret (v := .agg #[.int .i64 2, .int .i64 1, .int .i64 0]) (by simp [results, Tryd.results40, go_sem]) rfl ⟨rfl, (Below.refl _ _).alloc (Nat.le_refl _) _⟩
      · skip
        by_cases c10 : kind = 10
        · subst c10
          go_enter Tryd.func40, Tryd.ntmps40
          go_wp2
          exact bodyPost_ret (v := .agg #[.int .i64 0, .int .i64 2, .int .i64 1]) (by simp [results, Tryd.results40, go_sem]) rfl ⟨rfl, (Below.refl _ _).alloc (Nat.le_refl _) _⟩
        · skip
          have b3 : (kind == 3) = false := beq_eq_false_iff_ne.mpr c3
          have b5 : (kind == 5) = false := beq_eq_false_iff_ne.mpr c5
          have b6 : (kind == 6) = false := beq_eq_false_iff_ne.mpr c6
          have b10 : (kind == 10) = false := beq_eq_false_iff_ne.mpr c10
          have e : bindsOf kind = (0, 0, 0) := by
            unfold bindsOf
            rw [if_neg c3, if_neg c5, if_neg c6, if_neg c10]
          rw [e]
          clear e c3 c5 c6 c10
          go_enter Tryd.func40, Tryd.ntmps40
          go_wp2
          exact bodyPost_ret (v := .agg #[.int .i64 0, .int .i64 0, .int .i64 0]) (by simp [results, Tryd.results40, go_sem]) rfl ⟨rfl, (Below.refl _ _).alloc (Nat.le_refl _) _⟩
theorem binds_at {kind a b c : Int} (h : bindsOf kind = (a, b, c)) (w : World) :
    Calls Tryd.prog 40 #[.int .i64 kind] w fun e w' => e = .returned (.agg #[.int .i64 a, .int .i64 b, .int .i64 c]) ∧ Below w.heap.size w w' := by
  have h1 := binds_calls kind w
  rw [h] at h1
  exact h1
theorem idx_0 (a b c : Int) (w : World) : (Instr.index 82 (.agg #[.int .i64 a, .int .i64 b, .int .i64 c]) (.int .i64 0)).run Tryd.prog w = .ok (.int .i64 a) w := by kernel_rfl
theorem idx_1 (a b c : Int) (w : World) : (Instr.index 82 (.agg #[.int .i64 a, .int .i64 b, .int .i64 c]) (.int .i64 1)).run Tryd.prog w = .ok (.int .i64 b) w := by kernel_rfl
theorem idx_2 (a b c : Int) (w : World) : (Instr.index 82 (.agg #[.int .i64 a, .int .i64 b, .int .i64 c]) (.int .i64 2)).run Tryd.prog w = .ok (.int .i64 c) w := by kernel_rfl
end Go.Proofs.YtfcjpkkglffnmaaDoor.H

namespace Go.Proofs.YtfcjpkkglffnmaaDoor.H
open Go.RowKit Go.Proofs.YtfcjpkkglffnmaaDoorW.PrintWords Go.Proofs.YtfcjpkkglffnmaaDoorW.PrintLast Go.Proofs.YtfcjpkkglffnmaaDoorW.PrintMore
attribute [local go_sem] max2_int min2_int max_two min_two max_three min_three max_four min_four
set_option linter.unusedVariables false
set_option linter.unusedSimpArgs false
def boundOf (x : S34) (i : Nat) : List ByteArray :=
  if x.f0 = 3 ∧ i = 0 then [x.f6] else if x.f0 = 5 ∧ i = 1 then [x.f6] else if x.f0 = 6 ∧ i = 0 then [x.f6, x.f7] else if x.f0 = 6 ∧ i = 1 then [x.f6] else if x.f0 = 10 ∧ i = 1 then [x.f6, x.f7] else if x.f0 = 10 ∧ i = 2 then [x.f8] else []
theorem strC {w : World} {g : Nat} {cs : List Value} {names : List ByteArray} (h : w.heap[g]? = some (.cells cs.toArray 9 (0, 0))) (hn : cs.take names.length = names.map Value.string) (hm : names.length ≤ 4) : Kd.C Kd.string w (some ⟨g, 0, none⟩) names.length names := by
  refine ⟨rfl, by omega, fun _ => ⟨_, rfl, fun j p hj => ⟨[.string p], rfl, rfl, fun i u hu => ?_⟩⟩⟩
  have hi : i = 0 := by
    have := (List.getElem?_eq_some_iff.1 hu).1
    simp at this
    exact this
  subst hi
  obtain rfl : Value.string p = u := by simpa using hu
  have hjl := (List.getElem?_eq_some_iff.1 hj).1
  have h1 : (cs.take names.length)[j]? = some (.string p) := by rw [hn, List.getElem?_map, hj]; rfl
  rw [List.getElem?_take, if_pos hjl] at h1
  rw [add_plain, show j * Kd.string.sz + 0 = j from Nat.mul_one j, blk_cell h j]
  simpa using h1
def BoundPost (names : List ByteArray) (w : World) (e : Ending) (w' : World) : Prop :=
  ∃ (A : Option Addr) (c : Nat), e = .returned (.slice A names.length c) ∧ names.length ≤ c ∧ Kd.C Kd.string w' A names.length names ∧ Below w.heap.size w w'
theorem bound_end {w W w3 : World} {x : S34} {i g c : Nat} {cs : List Value} {names : List ByteArray} {e : Ending} (he : e = .returned (.slice (some ⟨g, 0, none⟩) names.length c)) (hW : W.heap[g]? = some (.cells cs.toArray 9 (0, 0))) (hB : Below w.heap.size w W) (hb : Below W.heap.size W w3) (hc : cs.take names.length = names.map Value.string ∧ names.length ≤ c ∧ names.length ≤ 4) (hn : boundOf x i = names) : BoundPost (boundOf x i) w e w3 := by
  subst hn
  exact ⟨_, c, he, hc.2.1, strC (blk_below hW hb) hc.1 hc.2.2, hB.trans (hb.mono hB.size)⟩
set_option maxRecDepth 100000 in
set_option maxHeartbeats 8000000 in
theorem bound_calls (b : Nat) (x : S34) (i : Nat) (w : World) (hi : i < 3) (h0 : w.cell? ⟨b, 0, none⟩ = some (.int .i64 x.f0)) (h6 : w.cell? ⟨b, 6, none⟩ = some (.string x.f6)) (h7 : w.cell? ⟨b, 7, none⟩ = some (.string x.f7)) (h8 : w.cell? ⟨b, 8, none⟩ = some (.string x.f8)) :
    Calls Tryd.prog 32 #[.pointer (some ⟨b, 0, none⟩), .int .i64 i] w (BoundPost (boundOf x i) w) := by
  have hb : b < w.heap.size := World.block_lt_of_cell? w ⟨b, 0, none⟩ h0
  have hb2 : b ≠ w.heap.size := Nat.ne_of_lt hb
  generalize hk : x.f0 = kind at *
  generalize hk6 : x.f6 = n6 at *
  generalize hk7 : x.f7 = n7 at *
  generalize hk8 : x.f8 = n8 at *
  by_cases c3 : kind = 3
  · subst c3
    rcases (show i = 0 ∨ i = 1 ∨ i = 2 by omega) with rfl | rfl | rfl
    · skip
      have ix0 := idx_0
      have ix1 := idx_1
      have ix2 := idx_2
      go_enter Tryd.func32, Tryd.ntmps32
      go_wp2_with fail
      go_region
      all_goals go_wp2_with (go_at_call 40; (with_reducible refine (binds_at (show bindsOf 3 = (1, 0, 0) from rfl) _).mono ?_); rintro e w3 ⟨rfl, hb3⟩; have HB3 := Aside0.mk hb3; clear hb3)
      all_goals go_ret
      all_goals refine bound_end (cs := [.string n6, .string n7]) (names := [n6]) rfl ?_ ?_ HB3.out ⟨by rfl, by simp, by simp⟩ (by simp [boundOf, hk, hk6, hk7, hk8])
      all_goals first | exact heap_alloc_new w _ | exact below_drew ((Below.refl _ _).alloc (Nat.le_refl _) _)
    · skip
      have ix0 := idx_0
      have ix1 := idx_1
      have ix2 := idx_2
      go_enter Tryd.func32, Tryd.ntmps32
      go_wp2_with fail
      go_region
      all_goals go_wp2_with (go_at_call 40; (with_reducible refine (binds_at (show bindsOf 3 = (1, 0, 0) from rfl) _).mono ?_); rintro e w3 ⟨rfl, hb3⟩; have HB3 := Aside0.mk hb3; clear hb3)
      all_goals go_ret
      all_goals refine bound_end (cs := [.string n6, .string n7]) (names := []) rfl ?_ ?_ HB3.out ⟨by rfl, by simp, by simp⟩ (by simp [boundOf, hk, hk6, hk7, hk8])
      all_goals first | exact heap_alloc_new w _ | exact below_drew ((Below.refl _ _).alloc (Nat.le_refl _) _)
    · skip
      have ix0 := idx_0
      have ix1 := idx_1
      have ix2 := idx_2
      go_enter Tryd.func32, Tryd.ntmps32
      go_wp2_with fail
      go_region
      all_goals go_wp2_with (go_at_call 40; (with_reducible refine (binds_at (show bindsOf 3 = (1, 0, 0) from rfl) _).mono ?_); rintro e w3 ⟨rfl, hb3⟩; have HB3 := Aside0.mk hb3; clear hb3)
      all_goals go_ret
      all_goals refine bound_end (cs := [.string n6, .string n7]) (names := []) rfl ?_ ?_ HB3.out ⟨by rfl, by simp, by simp⟩ (by simp [boundOf, hk, hk6, hk7, hk8])
      all_goals first | exact heap_alloc_new w _ | exact below_drew ((Below.refl _ _).alloc (Nat.le_refl _) _)
  · skip
    by_cases c5 : kind = 5
    · subst c5
      rcases (show i = 0 ∨ i = 1 ∨ i = 2 by omega) with rfl | rfl | rfl
      · skip
        have ix0 := idx_0
        have ix1 := idx_1
        have ix2 := idx_2
        go_enter Tryd.func32, Tryd.ntmps32
        go_wp2_with fail
        go_region
        all_goals go_wp2_with (go_at_call 40; (with_reducible refine (binds_at (show bindsOf 5 = (0, 1, 0) from rfl) _).mono ?_); rintro e w3 ⟨rfl, hb3⟩; have HB3 := Aside0.mk hb3; clear hb3)
        all_goals go_ret
        all_goals refine bound_end (cs := [.string n6, .string n7]) (names := []) rfl ?_ ?_ HB3.out ⟨by rfl, by simp, by simp⟩ (by simp [boundOf, hk, hk6, hk7, hk8])
        all_goals first | exact heap_alloc_new w _ | exact below_drew ((Below.refl _ _).alloc (Nat.le_refl _) _)
      · skip
        have ix0 := idx_0
        have ix1 := idx_1
        have ix2 := idx_2
        go_enter Tryd.func32, Tryd.ntmps32
        go_wp2_with fail
        go_region
        all_goals go_wp2_with (go_at_call 40; (with_reducible refine (binds_at (show bindsOf 5 = (0, 1, 0) from rfl) _).mono ?_); rintro e w3 ⟨rfl, hb3⟩; have HB3 := Aside0.mk hb3; clear hb3)
        all_goals go_ret
        all_goals refine bound_end (cs := [.string n6, .string n7]) (names := [n6]) rfl ?_ ?_ HB3.out ⟨by rfl, by simp, by simp⟩ (by simp [boundOf, hk, hk6, hk7, hk8])
        all_goals first | exact heap_alloc_new w _ | exact below_drew ((Below.refl _ _).alloc (Nat.le_refl _) _)
      · skip
        have ix0 := idx_0
        have ix1 := idx_1
        have ix2 := idx_2
        go_enter Tryd.func32, Tryd.ntmps32
        go_wp2_with fail
        go_region
        all_goals go_wp2_with (go_at_call 40; (with_reducible refine (binds_at (show bindsOf 5 = (0, 1, 0) from rfl) _).mono ?_); rintro e w3 ⟨rfl, hb3⟩; have HB3 := Aside0.mk hb3; clear hb3)
        all_goals go_ret
        all_goals refine bound_end (cs := [.string n6, .string n7]) (names := []) rfl ?_ ?_ HB3.out ⟨by rfl, by simp, by simp⟩ (by simp [boundOf, hk, hk6, hk7, hk8])
        all_goals first | exact heap_alloc_new w _ | exact below_drew ((Below.refl _ _).alloc (Nat.le_refl _) _)
    · skip
      by_cases c6 : kind = 6
      · subst c6
        rcases (show i = 0 ∨ i = 1 ∨ i = 2 by omega) with rfl | rfl | rfl
        · skip
          have ix0 := idx_0
          have ix1 := idx_1
          have ix2 := idx_2
          go_enter Tryd.func32, Tryd.ntmps32
          go_wp2_with fail
          go_region
          all_goals go_wp2_with (go_at_call 40; (with_reducible refine (binds_at (show bindsOf 6 = (2, 1, 0) from rfl) _).mono ?_); rintro e w3 ⟨rfl, hb3⟩; have HB3 := Aside0.mk hb3; clear hb3)
          all_goals go_ret
          all_goals refine bound_end (cs := [.string n6, .string n7]) (names := [n6, n7]) rfl ?_ ?_ HB3.out ⟨by rfl, by simp, by simp⟩ (by simp [boundOf, hk, hk6, hk7, hk8])
          all_goals first | exact heap_alloc_new w _ | exact below_drew ((Below.refl _ _).alloc (Nat.le_refl _) _)
        · skip
          have ix0 := idx_0
          have ix1 := idx_1
          have ix2 := idx_2
          go_enter Tryd.func32, Tryd.ntmps32
          go_wp2_with fail
          go_region
          all_goals go_wp2_with (go_at_call 40; (with_reducible refine (binds_at (show bindsOf 6 = (2, 1, 0) from rfl) _).mono ?_); rintro e w3 ⟨rfl, hb3⟩; have HB3 := Aside0.mk hb3; clear hb3)
          all_goals go_ret
          all_goals refine bound_end (cs := [.string n6, .string n7]) (names := [n6]) rfl ?_ ?_ HB3.out ⟨by rfl, by simp, by simp⟩ (by simp [boundOf, hk, hk6, hk7, hk8])
          all_goals first | exact heap_alloc_new w _ | exact below_drew ((Below.refl _ _).alloc (Nat.le_refl _) _)
        · skip
          have ix0 := idx_0
          have ix1 := idx_1
          have ix2 := idx_2
          go_enter Tryd.func32, Tryd.ntmps32
          go_wp2_with fail
          go_region
          all_goals go_wp2_with (go_at_call 40; (with_reducible refine (binds_at (show bindsOf 6 = (2, 1, 0) from rfl) _).mono ?_); rintro e w3 ⟨rfl, hb3⟩; have HB3 := Aside0.mk hb3; clear hb3)
          all_goals go_ret
          all_goals refine bound_end (cs := [.string n6, .string n7]) (names := []) rfl ?_ ?_ HB3.out ⟨by rfl, by simp, by simp⟩ (by simp [boundOf, hk, hk6, hk7, hk8])
          all_goals first | exact heap_alloc_new w _ | exact below_drew ((Below.refl _ _).alloc (Nat.le_refl _) _)
      · skip
        by_cases c10 : kind = 10
        · subst c10
          rcases (show i = 0 ∨ i = 1 ∨ i = 2 by omega) with rfl | rfl | rfl
          · skip
            have ix0 := idx_0
            have ix1 := idx_1
            have ix2 := idx_2
            go_enter Tryd.func32, Tryd.ntmps32
            go_wp2_with fail
            go_region
            all_goals go_wp2_with (go_at_call 40; (with_reducible refine (binds_at (show bindsOf 10 = (0, 2, 1) from rfl) _).mono ?_); rintro e w3 ⟨rfl, hb3⟩; have HB3 := Aside0.mk hb3; clear hb3)
            all_goals go_ret
            all_goals refine bound_end (cs := [.string n6, .string n7]) (names := []) rfl ?_ ?_ HB3.out ⟨by rfl, by simp, by simp⟩ (by simp [boundOf, hk, hk6, hk7, hk8])
            all_goals first | exact heap_alloc_new w _ | exact below_drew ((Below.refl _ _).alloc (Nat.le_refl _) _)
          · skip
            have ix0 := idx_0
            have ix1 := idx_1
            have ix2 := idx_2
            go_enter Tryd.func32, Tryd.ntmps32
            go_wp2_with fail
            go_region
            all_goals go_wp2_with (go_at_call 40; (with_reducible refine (binds_at (show bindsOf 10 = (0, 2, 1) from rfl) _).mono ?_); rintro e w3 ⟨rfl, hb3⟩; have HB3 := Aside0.mk hb3; clear hb3)
            all_goals go_ret
            all_goals refine bound_end (cs := [.string n6, .string n7]) (names := [n6, n7]) rfl ?_ ?_ HB3.out ⟨by rfl, by simp, by simp⟩ (by simp [boundOf, hk, hk6, hk7, hk8])
            all_goals first | exact heap_alloc_new w _ | exact below_drew ((Below.refl _ _).alloc (Nat.le_refl _) _)
          · skip
            have ix0 := idx_0
            have ix1 := idx_1
            have ix2 := idx_2
            go_enter Tryd.func32, Tryd.ntmps32
            go_wp2_with fail
            go_region
            all_goals go_wp2_with (go_at_call 40; (with_reducible refine (binds_at (show bindsOf 10 = (0, 2, 1) from rfl) _).mono ?_); rintro e w3 ⟨rfl, hb3⟩; have HB3 := Aside0.mk hb3; clear hb3)
            all_goals go_ret
            all_goals refine bound_end (cs := [.string n8]) (names := [n8]) rfl ?_ ?_ HB3.out ⟨by rfl, by simp, by simp⟩ (by simp [boundOf, hk, hk8])
            all_goals first | exact below_drew (below_alloc ((Below.refl _ _).alloc (Nat.le_refl _) _) _) | (have h9 := heap_alloc_new (w.alloc (.cells #[.string n6, .string n7] 9)) (.cells #[.string n8] 9); rw [show (w.alloc (.cells #[.string n6, .string n7] 9)).heap.size = w.heap.size + 1 from by simp] at h9; exact h9)
        · skip
          have HE := Aside0.mk (show bindsOf kind = (0, 0, 0) by unfold bindsOf; rw [if_neg c3, if_neg c5, if_neg c6, if_neg c10])
          have HN := Aside0.mk (show boundOf x i = [] by simp [boundOf, hk, c3, c5, c6, c10])
          have b10 : (kind == 10) = false := beq_eq_false_iff_ne.mpr c10
          clear c3 c5 c6 c10
          rcases (show i = 0 ∨ i = 1 ∨ i = 2 by omega) with rfl | rfl | rfl
          · skip
            have ix0 := idx_0
            have ix1 := idx_1
            have ix2 := idx_2
            go_enter Tryd.func32, Tryd.ntmps32
            go_wp2_with fail
            go_region
            all_goals go_wp2_with (go_at_call 40; (with_reducible refine (binds_at (show bindsOf kind = (0, 0, 0) from HE.out) _).mono ?_); rintro e w3 ⟨rfl, hb3⟩; have HB3 := Aside0.mk hb3; clear hb3)
            all_goals go_ret
            all_goals refine bound_end (cs := [.string n6, .string n7]) (names := []) rfl ?_ ?_ HB3.out ⟨by rfl, by simp, by simp⟩ HN.out
            all_goals first | exact heap_alloc_new w _ | exact below_drew ((Below.refl _ _).alloc (Nat.le_refl _) _)
          · skip
            have ix0 := idx_0
            have ix1 := idx_1
            have ix2 := idx_2
            go_enter Tryd.func32, Tryd.ntmps32
            go_wp2_with fail
            go_region
            all_goals go_wp2_with (go_at_call 40; (with_reducible refine (binds_at (show bindsOf kind = (0, 0, 0) from HE.out) _).mono ?_); rintro e w3 ⟨rfl, hb3⟩; have HB3 := Aside0.mk hb3; clear hb3)
            all_goals go_ret
            all_goals refine bound_end (cs := [.string n6, .string n7]) (names := []) rfl ?_ ?_ HB3.out ⟨by rfl, by simp, by simp⟩ HN.out
            all_goals first | exact heap_alloc_new w _ | exact below_drew ((Below.refl _ _).alloc (Nat.le_refl _) _)
          · skip
            have ix0 := idx_0
            have ix1 := idx_1
            have ix2 := idx_2
            go_enter Tryd.func32, Tryd.ntmps32
            go_wp2_with fail
            go_region
            all_goals go_wp2_with (go_at_call 40; (with_reducible refine (binds_at (show bindsOf kind = (0, 0, 0) from HE.out) _).mono ?_); rintro e w3 ⟨rfl, hb3⟩; have HB3 := Aside0.mk hb3; clear hb3)
            all_goals go_ret
            all_goals refine bound_end (cs := [.string n6, .string n7]) (names := []) rfl ?_ ?_ HB3.out ⟨by rfl, by simp, by simp⟩ HN.out
            all_goals first | exact heap_alloc_new w _ | exact below_drew ((Below.refl _ _).alloc (Nat.le_refl _) _)
end Go.Proofs.YtfcjpkkglffnmaaDoor.H

namespace Go.Proofs.YtfcjpkkglffnmaaDoor.H
open Go.RowKit Go.Proofs.YtfcjpkkglffnmaaDoorW.PrintWords Go.Proofs.YtfcjpkkglffnmaaDoorW.PrintLast Go.Proofs.YtfcjpkkglffnmaaDoorW.PrintMore
attribute [local go_sem] max2_int min2_int max_two min_two max_three min_three max_four min_four
set_option linter.unusedVariables false
set_option linter.unusedSimpArgs false
set_option maxHeartbeats 8000000 in
set_option maxRecDepth 100000 in
theorem cloneStr (ad : Addr) (c0 : Nat) (l0 : List ByteArray) (w : World) (hr0 : Kd.C Kd.string w (some ad) l0.length l0) (hlim : l0.length < 8796093022208) :
    Calls Tryd.prog 26 #[.slice (some ad) l0.length c0] w fun e w' => ∃ v0_ : Value, e = .returned (v0_) ∧ Kd.R Kd.string 9 w' w.heap.size (fun _ => True) v0_ l0 ∧ Below w.heap.size w w' := by
  have HR0 := Aside0.mk hr0
  have LMc2 := Aside0.mk hlim
  clear hr0 hlim
  have HB := Aside0.mk (Below.refl w.heap.size w)
  have infoE : (Tryd.prog.info? 9).map (fun i => (i.zero, i.size, i.bytes)) = some (some (.string ⟨#[]⟩), 1, 16) := by kernel_rfl
  have hnil := fun w => Lib.run_eql_slice_nil (P := Tryd.prog) w 40 9 (some ad) l0.length c0 0 0 Tryd.underlying40
  go_enter Tryd.func26, Tryd.ntmps26
  go_wp2_with (first | ((with_reducible refine gate_dst (N := 5) rfl ?_); refine Kd.R_lit Kd.string _ 9 ?hg (N := 5) ?hd (xs := ([] : List (ByteArray))) (inner := []) (ok := fun _ => True) (okp := fun _ => True) ?hr ?hp (fun _ hk => hk) trivial (Below.refl _ _) (Nat.le_refl _) (by simp) ?_; (case hd => rfl); (case hg => rfl); (case hr => first | (go_simp; done) | (go_simp; rfl)); (case hp => exact (Reps.none _ _)); intro v296 w3 ho4 hb hg_ hnew_; clear hg_ hnew_; have n0_ := Aside0.mk (Kd.R_lower ho4 (below_size (by repeat (first | (with_reducible first | exact HB.out | apply below_alloc | apply pw_below_drewN | apply below_drew1) | exact HB.out)))); have n1_ := Aside0.mk (below_step (by repeat (first | (with_reducible first | exact HB.out | apply below_alloc | apply pw_below_drewN | apply below_drew1) | exact HB.out)) hb); clear HB; have HO297 := n0_; have HB := n1_; clear n0_ n1_; clear hb ho4) | ((with_reducible refine gate_builtin (b := .append) (xs := #[.tmp 5, .tmp 6]) rfl ?_); at_builtin; refine Kd.R_append_rows Kd.string (w0 := w) w.heap.size rfl (.tmp 5) (.tmp 6) 40 9 (.string ⟨#[]⟩) 16 rfl Tryd.underlying40 infoE rfl (by decide) (by omega) v296 [] l0 _ _ _ (fun _ => True) (fun _ => False) rfl rfl ?aO ?aR (fun _ _ h => h) (fun _ h => h.elim) ?aF ?aB ?aS ?aL ?_; (case aR => repeat (first | exact (Kd.C_below HR0.out HB.out) | (with_reducible refine Kd.C_alloc ?_ _) | (with_reducible refine Kd.C_drewN ?_ _) | (with_reducible refine Kd.C_drew ?_))); (case aB => exact (by repeat (first | (with_reducible first | exact HB.out | apply below_alloc | apply pw_below_drewN | apply below_drew1) | exact HB.out))); (case aF => exact (fun _ _ => trivial)); (case aO => exact (by (with_reducible repeat (first | apply Kd.R_alloc | apply Kd.R_drewN | apply Kd.R_drew)); exact HO297.out)); (case aS => exact (below_size (by repeat (first | (with_reducible first | exact HB.out | apply below_alloc | apply pw_below_drewN | apply below_drew1) | exact HB.out)))); (case aL => have := LMc2.out; simp; omega); intro v299 w5 ho hb hg hat; rw [List.nil_append] at ho; have n0_ := Aside0.mk (hb); have n1_ := Aside0.mk (ho); clear HB; clear HO297; have HB := n0_; have HO300 := n1_; clear n0_ n1_; clear ho hb hg hat))
  go_ret
  exact ⟨_, rfl, by (with_reducible repeat (first | apply Kd.R_alloc | apply Kd.R_drewN | apply Kd.R_drew)); exact HO300.out, by repeat (first | (with_reducible first | exact HB.out | apply below_alloc | apply pw_below_drewN | apply below_drew1) | exact HB.out)⟩
set_option maxHeartbeats 8000000 in
set_option maxRecDepth 100000 in
theorem cloneStr_nil (c0 : Nat) (w : World) :
    Calls Tryd.prog 26 #[.slice none 0 c0] w fun e w' => e = .returned (.slice none 0 0) ∧ Below w.heap.size w w' := by
  have hnil := fun w => Lib.run_eql_slice_nil (P := Tryd.prog) w 40 9 none 0 c0 0 0 Tryd.underlying40
  go_enter Tryd.func26, Tryd.ntmps26
  go_wp2
  go_ret
  exact ⟨rfl, Below.refl _ _⟩
theorem cloneStr_any (A0 : Option Addr) (c0 : Nat) (l0 : List ByteArray) (w : World) (hr0 : Kd.C Kd.string w A0 l0.length l0) (hlim : l0.length < 8796093022208) :
    Calls Tryd.prog 26 #[.slice A0 l0.length c0] w fun e w' => ∃ v0_ : Value, e = .returned (v0_) ∧ Kd.R Kd.string 9 w' w.heap.size (fun _ => True) v0_ l0 ∧ Below w.heap.size w w' := by
  cases A0 with
  | some ad => exact cloneStr ad c0 l0 w hr0 hlim
  | none =>
    have hl : l0 = [] := by
      rcases Nat.eq_zero_or_pos l0.length with h | h
      · exact List.length_eq_zero_iff.1 h
      · obtain ⟨ad, e, _⟩ := hr0.2.2 h
        cases e
    subst hl
    exact (cloneStr_nil c0 w).mono fun e w' ⟨he, hb⟩ => ⟨_, he, Kd.R_nil _ _ _ _ _, hb⟩
end Go.Proofs.YtfcjpkkglffnmaaDoor.H

namespace Go.Proofs.YtfcjpkkglffnmaaDoor.H
open Go.RowKit Go.Proofs.YtfcjpkkglffnmaaDoorW.PrintWords Go.Proofs.YtfcjpkkglffnmaaDoorW.PrintLast Go.Proofs.YtfcjpkkglffnmaaDoorW.PrintMore
attribute [local go_sem] max2_int min2_int max_two min_two max_three min_three max_four min_four
set_option linter.unusedVariables false
set_option linter.unusedSimpArgs false
def opIdx (s : ByteArray) : List S45 → Nat → Int
  | [], _ => -1
  | o :: os, i => if (o.f0.toList == s.toList) = true then (i : Int) else opIdx s os (i + 1)
set_option maxRecDepth 100000 in
set_option maxHeartbeats 8000000 in
theorem isName_calls (gn : Nat) (s n : ByteArray) (f1 f2 : Int) (w : World) (hs : w.heap[gn]? = some (.cells #[.string s] 9 (0, 0))) :
    Calls Tryd.prog 46 #[.agg #[.string n, .int .i64 f1, .int .i64 f2], .pointer (some ⟨gn, 0, none⟩)] w fun e w' => e = .returned (.bool (n.toList == s.toList)) ∧ Below w.heap.size w w' := by
  have c0 : w.cell? ⟨gn, 0, none⟩ = some (.string s) := blk_cell hs 0
  have hlt := blk_lt hs
  have hne : gn ≠ w.heap.size := Nat.ne_of_lt hlt
  clear hs
  go_enter Tryd.func46, Tryd.ntmps46
  go_wp2
  try go_quiet (fail)
  try go_wp2
  go_ret
  exact ⟨rfl, by first | exact Below.refl _ _ | exact pw_below_drewN (Below.refl _ _) _ | exact (Below.refl _ _).alloc (Nat.le_refl _) _ | exact pw_below_drewN ((Below.refl _ _).alloc (Nat.le_refl _) _) _⟩
set_option maxRecDepth 100000 in
set_option maxHeartbeats 8000000 in
theorem indexName_calls (gn : Nat) (s : ByteArray) (A0 : Option Addr) (c0 : Nat) (l0 : List S45) (w : World) (hs : w.heap[gn]? = some (.cells #[.string s] 9 (0, 0))) (hr0 : Kd.C k45 w A0 l0.length l0) (hl : l0.length ≤ 4) :
    Calls Tryd.prog 45 #[.slice A0 l0.length c0, .func (.func 46) #[] #[.pointer (some ⟨gn, 0, none⟩)]] w fun e w' => e = .returned (.int .i64 (opIdx s l0 0)) ∧ Below w.heap.size w w' := by
  have HC := Aside0.mk hr0
  have HS := Aside0.mk hs
  obtain ⟨r, hr⟩ : ∃ r, opIdx s l0 0 = r := ⟨_, rfl⟩
  rw [hr]
  have H := Aside0.mk hr
  clear hr0 hs hr
  go_enter Tryd.func45, Tryd.ntmps45
  go_wp2_with fail
  go_loopw [8] (fun v8 wr => ∃ (i : Nat), v8 = .int .i64 i ∧ i ≤ l0.length ∧ Aside0 (opIdx s (l0.drop i) i = r) ∧ Aside0 (Below w.heap.size w wr)) (fun v8 _ => l0.length - (intOf v8).toNat)
  case atStart => exact ⟨0, rfl, Nat.zero_le _, H, ⟨Below.refl _ _⟩⟩
  case round =>
    obtain ⟨i, rfl, hi, HG, HB⟩ := hrel
    clear H
    by_cases hlt : i < l0.length
    · have hcr : Kd.C k45 wr A0 l0.length l0 := Kd.C_below HC.out HB.out
      obtain ⟨ad, e157, hx0, hx1, hx2⟩ := at_T45 hcr i (by omega) (by omega)
      cases e157
      have hxx : l0[i]? = some (rd_T45 l0 i) := by
        rw [List.getElem?_eq_getElem hlt, rd_T45, Int.toNat_natCast, List.getD_eq_getElem?_getD, List.getElem?_eq_getElem hlt]
        rfl
      have hg := HG.out
      rw [← hr_dropB hxx, opIdx] at hg
      have HG2 := Aside0.mk hg
      rw [Int.toNat_natCast] at hx0 hx1 hx2
      generalize rd_T45 l0 i = x at *
      have HSR := Aside0.mk (blk_below HS.out HB.out)
      clear hg hxx hcr HG
      cases hb : (x.f0.toList == s.toList)
      · have hg := HG2.out
        rw [hb] at hg
        simp only [Bool.false_eq_true, if_false] at hg
        have HG3 := Aside0.mk hg
        have HN := Aside0.mk (isName_calls gn s x.f0 x.f1 x.f2 wr HSR.out)
        rw [hb] at HN
        clear hb hg HG2
        go_wp2_with (go_at_call 46; (with_reducible refine HN.out.mono ?_); rintro e w3 ⟨rfl, hb3⟩; have HB3 := Aside0.mk hb3; clear hb3)
        go_roundw
        case rel => exact ⟨i + 1, by go_num, by omega, HG3, ⟨HB.out.trans (HB3.out.mono HB.out.size)⟩⟩
        case measure => simp [intOf]; omega
      · have hg := HG2.out
        rw [hb] at hg
        simp only [if_true] at hg
        subst hg
        have HN := Aside0.mk (isName_calls gn s x.f0 x.f1 x.f2 wr HSR.out)
        rw [hb] at HN
        clear hb HG2
        go_wp2_with (go_at_call 46; (with_reducible refine HN.out.mono ?_); rintro e w3 ⟨rfl, hb3⟩; have HB3 := Aside0.mk hb3; clear hb3)
        go_ret
        exact ⟨rfl, HB.out.trans (HB3.out.mono HB.out.size)⟩
    · have hg := HG.out
      rw [List.drop_eq_nil_of_le (by omega), opIdx] at hg
      subst hg
      clear HG
      go_wp2
      go_ret
      exact ⟨rfl, HB.out⟩
set_option maxRecDepth 100000 in
set_option maxHeartbeats 8000000 in
theorem op_calls (g : Nat) (s : ByteArray) (A0 : Option Addr) (c0 : Nat) (l0 : List S45) (vn : Value) (w : World) (hg : w.heap[g]? = some (.cells #[.slice A0 l0.length c0, vn] 51 (0, 0))) (hr0 : Kd.C k45 w A0 l0.length l0) (hl : l0.length ≤ 4) :
    Calls Tryd.prog 29 #[.pointer (some ⟨g, 0, none⟩), .string s] w fun e w' => e = .returned (.int .i64 (opIdx s l0 0)) ∧ Below w.heap.size w w' := by
  have c0 : w.cell? ⟨g, 0, none⟩ = some (.slice A0 l0.length c0) := blk_cell hg 0
  have hlt := blk_lt hg
  have hne : g ≠ w.heap.size := Nat.ne_of_lt hlt
  have HC := Aside0.mk hr0
  clear hg hr0
  go_enter Tryd.func29, Tryd.ntmps29
  go_wp2_with (go_at_call 45; (with_reducible refine (indexName_calls w.heap.size s A0 _ l0 _ ?h1 ?h2 hl).mono ?_); (case h1 => exact heap_alloc_new w _); (case h2 => exact Kd.C_alloc HC.out _); rintro e w3 ⟨rfl, hb3⟩; have HB3 := Aside0.mk hb3; clear hb3)
  go_ret
  exact ⟨rfl, ((Below.refl _ _).alloc (Nat.le_refl _) _).trans (HB3.out.mono (by simp))⟩
end Go.Proofs.YtfcjpkkglffnmaaDoor.H

namespace Go.Proofs.YtfcjpkkglffnmaaDoor.H
open Go.RowKit Go.Proofs.YtfcjpkkglffnmaaDoorW.PrintWords Go.Proofs.YtfcjpkkglffnmaaDoorW.PrintLast Go.Proofs.YtfcjpkkglffnmaaDoorW.PrintMore
attribute [local go_sem] max2_int min2_int max_two min_two max_three min_three max_four min_four
set_option linter.unusedVariables false
set_option linter.unusedSimpArgs false
set_option maxHeartbeats 8000000 in
set_option maxRecDepth 100000 in
theorem growStr_calls (m : Nat) (hm : 0 < m) (hl : m ≤ 1000000) (w : World) :
    Calls Tryd.prog 47 #[.slice none 0 0, .int .i64 m] w fun e w' => ∃ v0_ : Value, e = .returned v0_ ∧ Kd.R Kd.string 9 w' w.heap.size (fun _ => True) v0_ [] ∧ Below w.heap.size w w' := by
  have b9 : Tryd.t9.bytes = 16 := by kernel_rfl
  have hns : Builtin.nextslicecap m 0 = m := by unfold Builtin.nextslicecap; rw [if_pos (by omega)]
  go_enter Tryd.func47, Tryd.ntmps47
  go_wp2_with fail
  all_goals simp only [b9, hns] at *
  all_goals first | (exfalso; omega) | skip
  go_ret
  have hc0 := grownCap_ge w m 0 9
  have hc1 := grownCap_le_maxLen w m 0 9 (by unfold maxLen; omega)
  have hsz : (Builtin.zeroCells #[Value.string ⟨#[]⟩] m ++ Builtin.zeroCells #[Value.string ⟨#[]⟩] ((Question.appendCap m 0 9).cut (w.tape w.drawn (Question.appendCap m 0 9)) - m)).size = (Question.appendCap m 0 9).cut (w.tape w.drawn (Question.appendCap m 0 9)) * Kd.string.sz := by
    have hc2 : m ≤ (Question.appendCap m 0 9).cut (w.tape w.drawn (Question.appendCap m 0 9)) := hc0
    rw [Array.size_append, size_zeroCells, size_zeroCells]
    show m * 1 + (_ - m) * 1 = _ * 1
    omega
  exact ⟨_, rfl, ⟨fun _ _ => trivial, [], ⟨rfl, .inr ⟨_, _, _, rfl, Nat.le_refl _, heap_alloc_new w _, Nat.zero_le _, hc1, hsz, rfl⟩⟩, Reps.none _ _⟩, below_drew ((Below.refl _ _).alloc (Nat.le_refl _) _)⟩
set_option maxHeartbeats 8000000 in
set_option maxRecDepth 100000 in
theorem growStr_zero (w : World) :
    Calls Tryd.prog 47 #[.slice none 0 0, .int .i64 0] w fun e w' => e = .returned (.slice none 0 0) ∧ w' = w := by
  go_enter Tryd.func47, Tryd.ntmps47
  go_wp2
  go_ret
  exact ⟨rfl, rfl⟩
theorem growStr_any (m : Nat) (hl : m ≤ 1000000) (w : World) :
    Calls Tryd.prog 47 #[.slice none 0 0, .int .i64 m] w fun e w' => ∃ v0_ : Value, e = .returned v0_ ∧ Kd.R Kd.string 9 w' w.heap.size (fun _ => True) v0_ [] ∧ Below w.heap.size w w' := by
  rcases Nat.eq_zero_or_pos m with rfl | h
  · exact (growStr_zero w).mono fun e w' ⟨he, hb⟩ => ⟨_, he, Kd.R_nil _ _ _ _ _, hb ▸ Below.refl _ _⟩
  · exact growStr_calls m h hl w
theorem growStr_int (z : Int) (h0 : 0 ≤ z) (hl : z ≤ 1000000) (w : World) :
    Calls Tryd.prog 47 #[.slice none 0 0, .int .i64 z] w fun e w' => ∃ v0_ : Value, e = .returned v0_ ∧ Kd.R Kd.string 9 w' w.heap.size (fun _ => True) v0_ [] ∧ Below w.heap.size w w' := by
  obtain ⟨m, rfl⟩ := Int.eq_ofNat_of_zero_le h0
  exact growStr_any m (by omega) w
end Go.Proofs.YtfcjpkkglffnmaaDoor.H

namespace Go.Proofs.YtfcjpkkglffnmaaDoor.H
open Go.RowKit Go.Proofs.YtfcjpkkglffnmaaDoorW.PrintWords Go.Proofs.YtfcjpkkglffnmaaDoorW.PrintLast Go.Proofs.YtfcjpkkglffnmaaDoorW.PrintMore
attribute [local go_sem] max2_int min2_int max_two min_two max_three min_three max_four min_four
set_option linter.unusedVariables false
set_option linter.unusedSimpArgs false
set_option maxHeartbeats 8000000 in
set_option maxRecDepth 100000 in
theorem concat2_calls (gs : Nat) (A0 A1 : Option Addr) (c0 c1 : Nat) (l0 l1 : List ByteArray) (w : World) (hb : w.heap[gs]? = some (.cells #[.slice A0 l0.length c0, .slice A1 l1.length c1] 40 (0, 0))) (hr0 : Kd.C Kd.string w A0 l0.length l0) (hr1 : Kd.C Kd.string w A1 l1.length l1) (h0 : l0.length ≤ 100000) (h1 : l1.length ≤ 100000) :
    Calls Tryd.prog 31 #[.slice (some ⟨gs, 0, none⟩) 2 2] w fun e w' => ∃ v0_ : Value, e = .returned v0_ ∧ Kd.R Kd.string 9 w' w.heap.size (fun _ => True) v0_ (l0 ++ l1) ∧ Below w.heap.size w w' := by
  have infoE : (Tryd.prog.info? 9).map (fun i => (i.zero, i.size, i.bytes)) = some (some (.string ⟨#[]⟩), 1, 16) := by kernel_rfl
  have HC0 := Aside0.mk hr0
  have HC1 := Aside0.mk hr1
  have HBK := Aside0.mk hb
  have d0 : w.cell? ⟨gs, 0, none⟩ = some (.slice A0 l0.length c0) := blk_cell hb 0
  have d1 : w.cell? ⟨gs, 1, none⟩ = some (.slice A1 l1.length c1) := blk_cell hb 1
  clear hr0 hr1 hb
  go_enter Tryd.func31, Tryd.ntmps31
  go_wp2_with fail
  refine wp_loop_rounds 3 ?_
  rw [rounds_succ]
  go_wp2_with fail
  rw [rounds_succ]
  go_wp2_with fail
  rw [rounds_succ]
  go_wp2_with (go_at_call 47; (with_reducible refine (growStr_int _ ?z0 ?z1 _).mono ?_); (case z0 => omega); (case z1 => omega); rintro e w3 ⟨v3, rfl, ho3, hb3⟩; have HO3 := Aside0.mk ho3; have HB3 := Aside0.mk hb3; clear ho3 hb3)
  have d0 : w3.cell? ⟨gs, 0, none⟩ = some (.slice A0 l0.length c0) := pw_cell_below HB3.out d0
  have d1 : w3.cell? ⟨gs, 1, none⟩ = some (.slice A1 l1.length c1) := pw_cell_below HB3.out d1
  refine wp_loop_rounds 3 ?_
  rw [rounds_succ]
  go_wp2_with ((with_reducible refine gate_builtin (b := .append) (xs := #[.tmp 31, .tmp 32]) rfl ?_); at_builtin; refine Kd.R_append_rows Kd.string (w0 := w) w.heap.size rfl (.tmp 31) (.tmp 32) 40 9 (.string ⟨#[]⟩) 16 rfl Tryd.underlying40 infoE rfl (by decide) (by omega) v3 ([] : List ByteArray) l0 _ _ _ (fun _ => True) (fun _ => False) rfl rfl ?aO ?aR (fun _ _ h => h) (fun _ h => h.elim) ?aF ?aB ?aS ?aL ?_; (case aR => exact Kd.C_below HC0.out HB3.out); (case aB => exact HB3.out); (case aF => exact (fun _ _ => trivial)); (case aO => exact HO3.out); (case aS => exact HB3.out.size); (case aL => simp; omega); intro v4 w4 ho hb hg hat; have HO4 := Aside0.mk ho; have HB4 := Aside0.mk hb; clear ho hb hg hat)
  have d1 : w4.cell? ⟨gs, 1, none⟩ = some (.slice A1 l1.length c1) := by
    have := HBK.out
    exact blk_cell (blk_below HBK.out HB4.out) 1
  rw [rounds_succ]
  go_wp2_with ((with_reducible refine gate_builtin (b := .append) (xs := #[.tmp 31, .tmp 32]) rfl ?_); at_builtin; refine Kd.R_append_rows Kd.string (w0 := w) w.heap.size rfl (.tmp 31) (.tmp 32) 40 9 (.string ⟨#[]⟩) 16 rfl Tryd.underlying40 infoE rfl (by decide) (by omega) v4 ([] ++ l0) l1 _ _ _ (fun _ => True) (fun _ => False) rfl rfl ?aO ?aR (fun _ _ h => h) (fun _ h => h.elim) ?aF ?aB ?aS ?aL ?_; (case aR => exact Kd.C_below HC1.out HB4.out); (case aB => exact HB4.out); (case aF => exact (fun _ _ => trivial)); (case aO => exact HO4.out); (case aS => exact HB4.out.size); (case aL => simp; omega); intro v5 w5 ho hb hg hat; have HO5 := Aside0.mk ho; have HB5 := Aside0.mk hb; clear ho hb hg hat)
  rw [rounds_succ]
  go_wp2_with fail
  go_ret
  exact ⟨_, rfl, HO5.out, HB5.out⟩
end Go.Proofs.YtfcjpkkglffnmaaDoor.H

namespace Go.Proofs.YtfcjpkkglffnmaaDoor.H
open Go.RowKit Go.Proofs.YtfcjpkkglffnmaaDoorW.PrintWords Go.Proofs.YtfcjpkkglffnmaaDoorW.PrintLast Go.Proofs.YtfcjpkkglffnmaaDoorW.PrintMore
attribute [local go_sem] max2_int min2_int max_two min_two max_three min_three max_four min_four
set_option linter.unusedVariables false
set_option linter.unusedSimpArgs false
def nodeCells (x : S34) : List Value := [.int .i64 x.f0, .int .i64 x.f1, .int .i64 x.f2, .int .i64 x.f3, .int .i64 x.f4, .string x.f5, .string x.f6, .string x.f7, .string x.f8, .int .i64 x.f9]
theorem R_field {W : World} {base g n cap : Nat} {ok : Nat → Prop} {xs : List S34} (h : Kd.R k34 34 W base ok (.slice (some ⟨g, 0, none⟩) n cap) xs) (i : Nat) (hi : i < n) (x x' : S34) (hx : xs[i]? = some x) (j : Nat) (u : Value) (hj : j < 10)
    (hl : (nodeCells x).take j ++ [u] ++ (nodeCells x).drop (j + 1) = nodeCells x') : Kd.R k34 34 (W.setCell ⟨g, i * 10 + j, none⟩ u) base ok (.slice (some ⟨g, 0, none⟩) n cap) (xs.set i x') := by
  obtain ⟨c, hcl, hM, hcc, hff⟩ := Kd.R_elem h z34 i (by omega) (by omega)
  rw [Int.toNat_natCast, List.getD_eq_getElem?_getD, hx] at hM
  rw [Int.toNat_natCast] at hcc
  obtain rfl := k34_openM hM
  have HS := (Kd.R_seg h (i := (i : Int)) (by omega) (by omega) (c := nodeCells x) (seg := [u]) (j := j) (x' := x') (okp := fun _ => False) rfl
    (by rw [Int.toNat_natCast]; exact hcc) (by show j + 1 ≤ 10; omega) (by rw [show ([u]).length = 1 from rfl, hl]; exact k34_mkM _ _ _ _) (fun _ h => h.elim)).1
  rw [Int.toNat_natCast] at HS
  exact HS
theorem R_node {W : World} {base g n cap : Nat} {ok : Nat → Prop} {xs : List S34} (h : Kd.R k34 34 W base ok (.slice (some ⟨g, 0, none⟩) n cap) xs) (i : Nat) (hi : i < n) (x : S34) (hx : xs[i]? = some x) :
    (∀ j u, (nodeCells x)[j]? = some u → W.cell? ⟨g, i * 10 + j, none⟩ = some u) ∧ ∀ j, W.frozen? ⟨g, i * 10 + j, none⟩ = false := by
  obtain ⟨c, hcl, hM, hcc, hff⟩ := Kd.R_elem h z34 i (by omega) (by omega)
  rw [Int.toNat_natCast, List.getD_eq_getElem?_getD, hx] at hM
  rw [Int.toNat_natCast] at hcc hff
  obtain rfl := k34_openM hM
  exact ⟨hcc, hff⟩
def LowB (gn : Nat) (w W : World) : Prop := w.heap.size ≤ W.heap.size ∧ ∀ B, B ≤ gn → Below B w W
theorem LowB.refl (gn : Nat) (w : World) : LowB gn w w := ⟨Nat.le_refl _, fun _ _ => Below.refl _ _⟩
theorem LowB.below {gn : Nat} {w W W2 : World} (h : LowB gn w W) (hg : gn < w.heap.size) (hb : Below W.heap.size W W2) : LowB gn w W2 := ⟨Nat.le_trans h.1 hb.size, fun B hB => (h.2 B hB).trans (hb.mono (by have := h.1; omega))⟩
theorem LowB.alloc {gn : Nat} {w W : World} (h : LowB gn w W) (hg : gn < w.heap.size) (o : Obj) : LowB gn w (W.alloc o) := h.below hg (below_alloc (Below.refl _ _) o)
theorem LowB.drewN {gn : Nat} {w W : World} (h : LowB gn w W) (hg : gn < w.heap.size) (m : Nat) : LowB gn w (W.drewN m) := h.below hg (pw_below_drewN (Below.refl _ _) m)
theorem LowB.set_ {gn : Nat} {w W : World} (h : LowB gn w W) (j : Nat) (u : Value) : LowB gn w (W.setCell ⟨gn, j, none⟩ u) := ⟨by have := h.1; simpa [World.setCell] using this, fun B hB => (h.2 B hB).setCell hB _⟩
theorem LowB.trans {gn : Nat} {w W W2 : World} (h : LowB gn w W) (k : LowB gn W W2) : LowB gn w W2 := ⟨Nat.le_trans h.1 k.1, fun B hB => (h.2 B hB).trans (k.2 B hB)⟩
def blankN (x : S34) (i : Int) : S34 := ⟨x.f0, x.f1, x.f2, x.f3, i, ⟨#[]⟩, ⟨#[]⟩, ⟨#[]⟩, ⟨#[]⟩, x.f9⟩
def goKids (g : List S34 → Int → List ByteArray → Option (Option (Int × Int) × List S34)) (x : S34) (env : List ByteArray) : List Int → Nat → List S34 → Option (Option (Int × Int) × List S34)
  | [], _, ns => some (none, ns)
  | c :: cs, i, ns => (g ns c (env ++ boundOf x i)).bind fun p => match p.1 with
    | some e => some (some e, p.2)
    | none => goKids g x env cs (i + 1) p.2
def rnode.f : Nat → List S45 → List S34 → Int → List ByteArray → Option (Option (Int × Int) × List S34)
  | 0, _, _, _, _ => none
  | k + 1, ops, ns, at_, env => if 0 ≤ at_ ∧ at_ < (ns.length : Int) ∧ env.length ≤ 2000 ∧ ops.length ≤ 4 then
      (let x := rd_T34 ns at_
      if x.f0 = 0 then ((slices_Reverse_string_string.f k env).bind fun r => (slices_Index_string_string.f k r x.f5).bind fun i =>
        if i < 0 then some (some (x.f9, 601), ns.set at_.toNat (blankN x i)) else some (none, ns.set at_.toNat (blankN x i)))
      else if x.f0 = 9 ∨ x.f0 = 10 then (if opIdx x.f5 ops 0 < 0 then some (some (x.f9, 602), ns.set at_.toNat (blankN x (opIdx x.f5 ops 0))) else goKids (rnode.f k ops) x env (kidsOf x) 0 (ns.set at_.toNat (blankN x (opIdx x.f5 ops 0))))
      else goKids (rnode.f k ops) x env (kidsOf x) 0 (ns.set at_.toNat (blankN x x.f4))) else none
def ErrV (w : World) (N : Nat) : Option (Int × Int) → Value → Prop
  | none, v => v = .nilIface
  | some (a, c), v => ∃ g, N ≤ g ∧ v = .iface 61 (.pointer (some ⟨g, 0, none⟩)) ∧ w.heap[g]? = some (.cells #[.int .i64 a, .iface 27 (.int .i64 c)] 66 (0, 0))
theorem boundOf_le (x : S34) (i : Nat) : (boundOf x i).length ≤ 2 := by
  unfold boundOf
  repeat' split
  all_goals simp
theorem env_foot {w5 : World} {gn e n c : Nat} {A : Option Addr} {xs : List ByteArray} (h : Kd.R Kd.string e w5 n (fun _ => True) (.slice A xs.length c) xs) (hg : gn < n) : Kd.F Kd.string w5 (fun k => k ≠ gn) A xs.length xs :=
  Kd.F_mono (Kd.R_F (Kd.R_bound h)) (fun k hk => by have := hk.2.1; omega)
theorem new_at {W : World} {n : Nat} (h : W.heap.size = n) (o : Obj) : (W.alloc o).heap[n]? = some o := by subst h; exact heap_alloc_new W o
theorem blank_world {w : World} {g gn cap an base : Nat} {Ao A : Option Addr} {co : Nat} {ops : List S45} {nn : Nat} {ns : List S34} {env : List ByteArray} {x : S34} (HG : w.heap[g]? = some (.cells #[.slice Ao ops.length co, .slice (some ⟨gn, 0, none⟩) nn cap] 51 (0, 0))) (HO : Kd.F k45 w (fun k => k ≠ gn) Ao ops.length ops) (HN : Kd.R k34 34 w base (fun k => k = gn) (.slice (some ⟨gn, 0, none⟩) nn cap) ns) (HE : Kd.F Kd.string w (fun k => k ≠ gn) A env.length env) (hnn : ns.length = nn) (hlt : an < ns.length) (hx : ns[an]? = some x) :
    ∃ w1, (((((w.setCell ⟨gn, an * 10 + 5, none⟩ (.string ⟨#[]⟩)).setCell ⟨gn, an * 10 + 6, none⟩ (.string ⟨#[]⟩)).setCell ⟨gn, an * 10 + 7, none⟩ (.string ⟨#[]⟩)).setCell ⟨gn, an * 10 + 8, none⟩ (.string ⟨#[]⟩)).alloc (.cells #[.int .i64 x.f0, .int .i64 x.f1, .int .i64 x.f2, .int .i64 x.f3, .int .i64 x.f4, .string x.f5, .string x.f6, .string x.f7, .string x.f8, .int .i64 x.f9] 34)) = w1 ∧
      w1.heap[g]? = some (.cells #[.slice Ao ops.length co, .slice (some ⟨gn, 0, none⟩) nn cap] 51 (0, 0)) ∧ Kd.F k45 w1 (fun k => k ≠ gn) Ao ops.length ops ∧ Kd.R k34 34 w1 base (fun k => k = gn) (.slice (some ⟨gn, 0, none⟩) nn cap) (ns.set an (blankN x x.f4)) ∧ Kd.F Kd.string w1 (fun k => k ≠ gn) A env.length env ∧
      Kept w w1 (fun k => k = gn) ∧ w1.heap[w.heap.size]? = some (.cells (nodeCells x).toArray 34 (0, 0)) ∧ w1.heap.size = w.heap.size + 1 ∧ LowB gn w w1 ∧ g ≠ gn := by
  have hgne : g ≠ gn := by
    intro e
    have h1 := Kd.R_typed HN gn rfl
    obtain ⟨cells, h1⟩ := h1
    rw [e, h1] at HG
    injection HG with HG
    injection HG with _ HG
    exact absurd HG (by decide)
  have hgnlt : gn < w.heap.size := Kd.R_lt HN gn rfl
  have step : ∀ (W : World) (j : Nat) (u : Value), (W.heap[g]? = some (.cells #[.slice Ao ops.length co, .slice (some ⟨gn, 0, none⟩) nn cap] 51 (0, 0)) ∧ Kd.F k45 W (fun k => k ≠ gn) Ao ops.length ops ∧ Kd.F Kd.string W (fun k => k ≠ gn) A env.length env ∧ Kept w W (fun k => k = gn) ∧ W.heap.size = w.heap.size) →
      ((W.setCell ⟨gn, an * 10 + j, none⟩ u).heap[g]? = some (.cells #[.slice Ao ops.length co, .slice (some ⟨gn, 0, none⟩) nn cap] 51 (0, 0)) ∧ Kd.F k45 (W.setCell ⟨gn, an * 10 + j, none⟩ u) (fun k => k ≠ gn) Ao ops.length ops ∧ Kd.F Kd.string (W.setCell ⟨gn, an * 10 + j, none⟩ u) (fun k => k ≠ gn) A env.length env ∧ Kept w (W.setCell ⟨gn, an * 10 + j, none⟩ u) (fun k => k = gn) ∧ (W.setCell ⟨gn, an * 10 + j, none⟩ u).heap.size = w.heap.size) := by
    rintro W j u ⟨h1, h2, h3, h4, h5⟩
    exact ⟨blk_far h1 hgne _, Kd.F_far h2 (fun k hk => hk) _, Kd.F_far h3 (fun k hk => hk) _, Kept.setCell h4 (.inl rfl) _, by simp [World.setCell, h5]⟩
  have s1 := step w 5 (.string ⟨#[]⟩) ⟨HG, HO, HE, Kept.refl _ _, rfl⟩
  have s2 := step _ 6 (.string ⟨#[]⟩) s1
  have s3 := step _ 7 (.string ⟨#[]⟩) s2
  obtain ⟨h1, h2, h3, h4, h5⟩ := step _ 8 (.string ⟨#[]⟩) s3
  have hget : ∀ (y : S34) , (ns.set an y)[an]? = some y := fun y => List.getElem?_set_self hlt
  have r1 := R_field HN an (hnn ▸ hlt) x (⟨x.f0, x.f1, x.f2, x.f3, x.f4, ⟨#[]⟩, x.f6, x.f7, x.f8, x.f9⟩ : S34) hx 5 (.string ⟨#[]⟩) (by omega) rfl
  have r2 := R_field r1 an (hnn ▸ hlt) _ (⟨x.f0, x.f1, x.f2, x.f3, x.f4, ⟨#[]⟩, ⟨#[]⟩, x.f7, x.f8, x.f9⟩ : S34) (hget _) 6 (.string ⟨#[]⟩) (by omega) rfl
  rw [List.set_set] at r2
  have r3 := R_field r2 an (hnn ▸ hlt) _ (⟨x.f0, x.f1, x.f2, x.f3, x.f4, ⟨#[]⟩, ⟨#[]⟩, ⟨#[]⟩, x.f8, x.f9⟩ : S34) (hget _) 7 (.string ⟨#[]⟩) (by omega) rfl
  rw [List.set_set] at r3
  have r4 := R_field r3 an (hnn ▸ hlt) _ (blankN x x.f4) (hget _) 8 (.string ⟨#[]⟩) (by omega) rfl
  rw [List.set_set] at r4
  refine ⟨_, rfl, blk_alloc h1 _, Kd.F_alloc h2 _, Kd.R_alloc r4 _, Kd.F_alloc h3 _, Kept.alloc h4 _, ?_, by simp [h5], LowB.alloc ((((LowB.refl gn w).set_ _ _).set_ _ _).set_ _ _ |>.set_ _ _) hgnlt _, hgne⟩
  rw [← h5]
  exact heap_alloc_new _ _
set_option maxRecDepth 100000 in
set_option maxHeartbeats 16000000 in
theorem rnode.calls (k : Nat) : ∀ (g gn cap nn : Nat) (Ao : Option Addr) (co : Nat) (ops : List S45) (ns : List S34) (at_ : Int) (A : Option Addr) (c : Nat) (env : List ByteArray) (r : Option (Int × Int)) (ns' : List S34) (base : Nat) (w : World) (hnn : ns.length = nn)
    (hg : w.heap[g]? = some (.cells #[.slice Ao ops.length co, .slice (some ⟨gn, 0, none⟩) nn cap] 51 (0, 0))) (ho : Kd.F k45 w (fun k => k ≠ gn) Ao ops.length ops) (hn : Kd.R k34 34 w base (fun k => k = gn) (.slice (some ⟨gn, 0, none⟩) nn cap) ns) (he : Kd.F Kd.string w (fun k => k ≠ gn) A env.length env) (hc : env.length ≤ c)
    (h : rnode.f k ops ns at_ env = some (r, ns')),
    Calls Tryd.prog 21 #[.pointer (some ⟨g, 0, none⟩), .int .i64 at_, .slice A env.length c] w fun e w' => ∃ v, e = .returned v ∧ ErrV w' w.heap.size r v ∧ Kd.R k34 34 w' base (fun k => k = gn) (.slice (some ⟨gn, 0, none⟩) nn cap) ns' ∧ Kept w w' (fun k => k = gn) ∧ LowB gn w w' := by
  induction k with
  | zero => intro g gn cap nn Ao co ops ns at_ A c env r ns' base w hnn hg ho hn he hc h; exact absurd h (by simp [rnode.f])
  | succ k ih =>
    intro g gn cap nn Ao co ops ns at_ A c env r ns' base w hnn hg ho hn he hc h
    rw [rnode.f] at h
    by_cases h0 : 0 ≤ at_ ∧ at_ < (ns.length : Int) ∧ env.length ≤ 2000 ∧ ops.length ≤ 4
    · rw [if_pos h0] at h
      obtain ⟨ha, hb, h1000, h4⟩ := h0
      obtain ⟨an, rfl⟩ := Int.eq_ofNat_of_zero_le ha
      have hlt : an < ns.length := by omega
      have hlt2 : an < nn := by omega
      have hx : ns[an]? = some (rd_T34 ns an) := by
        rw [List.getElem?_eq_getElem hlt, rd_T34, Int.toNat_natCast, List.getD_eq_getElem?_getD, List.getElem?_eq_getElem hlt]
        rfl
      simp only [] at h
      rw [Int.toNat_natCast] at h
      generalize rd_T34 ns an = x at *
      have c0 : w.cell? ⟨g, 0, none⟩ = some (.slice Ao ops.length co) := blk_cell hg 0
      have c1 : w.cell? ⟨g, 1, none⟩ = some (.slice (some ⟨gn, 0, none⟩) nn cap) := blk_cell hg 1
      obtain ⟨hcell, hfroz⟩ := R_node hn an hlt2 x hx
      have x0 : w.cell? ⟨gn, an * 10, none⟩ = some (.int .i64 x.f0) := hcell 0 _ rfl
      have x1 : w.cell? ⟨gn, an * 10 + 1, none⟩ = some (.int .i64 x.f1) := hcell 1 _ rfl
      have x2 : w.cell? ⟨gn, an * 10 + 2, none⟩ = some (.int .i64 x.f2) := hcell 2 _ rfl
      have x3 : w.cell? ⟨gn, an * 10 + 3, none⟩ = some (.int .i64 x.f3) := hcell 3 _ rfl
      have x4 : w.cell? ⟨gn, an * 10 + 4, none⟩ = some (.int .i64 x.f4) := hcell 4 _ rfl
      have x5 : w.cell? ⟨gn, an * 10 + 5, none⟩ = some (.string x.f5) := hcell 5 _ rfl
      have x6 : w.cell? ⟨gn, an * 10 + 6, none⟩ = some (.string x.f6) := hcell 6 _ rfl
      have x7 : w.cell? ⟨gn, an * 10 + 7, none⟩ = some (.string x.f7) := hcell 7 _ rfl
      have x8 : w.cell? ⟨gn, an * 10 + 8, none⟩ = some (.string x.f8) := hcell 8 _ rfl
      have x9 : w.cell? ⟨gn, an * 10 + 9, none⟩ = some (.int .i64 x.f9) := hcell 9 _ rfl
      have y5 : w.frozen? ⟨gn, an * 10 + 5, none⟩ = false := hfroz 5
      have y6 : w.frozen? ⟨gn, an * 10 + 6, none⟩ = false := hfroz 6
      have y7 : w.frozen? ⟨gn, an * 10 + 7, none⟩ = false := hfroz 7
      have y8 : w.frozen? ⟨gn, an * 10 + 8, none⟩ = false := hfroz 8
      have H := Aside0.mk h
      have HX := Aside0.mk hx
      have HNN := Aside0.mk hnn
      have IH := Aside0.mk ih
      have hgl := blk_lt hg
      have hgnl : gn < w.heap.size := World.block_lt_of_cell? w ⟨gn, an * 10, none⟩ x0
      obtain ⟨w1, hW1, g1, o1, n1, e1, k1, b1, z1, y1, hgne⟩ := blank_world hg ho hn he hnn hlt hx
      have HW1 := Aside0.mk hW1
      have G1 := Aside0.mk g1
      have O1 := Aside0.mk o1
      have N1 := Aside0.mk n1
      have E1 := Aside0.mk e1
      have K1 := Aside0.mk k1
      have Y1 := Aside0.mk y1
      have B1 := Aside0.mk b1
      have HC := Aside0.mk hc
      clear hg ho hn he hx h hcell hfroz hW1 g1 o1 n1 e1 k1 b1 y1 hc hnn ih hb
      by_cases k0 : x.f0 = 0
      · skip
        have h := H.out
        rw [if_pos k0] at h
        replace h := Option.bind_eq_some_iff.mp h
        obtain ⟨rv, hrv, h⟩ := h
        replace h := Option.bind_eq_some_iff.mp h
        obtain ⟨iv, hiv, h⟩ := h
        have HRV := Aside0.mk hrv
        have HIV := Aside0.mk hiv
        have H2 := Aside0.mk h
        have q0 : (x.f0 == 0) = true := beq_iff_eq.mpr k0
        have f1000 : env.length < 8796093022208 := by omega
        have B5 : w1.cell? ⟨w.heap.size, 5, none⟩ = some (.string x.f5) := blk_cell B1.out 5
        have B9 : w1.cell? ⟨w.heap.size, 9, none⟩ = some (.int .i64 x.f9) := blk_cell B1.out 9
        clear h H k0 hrv hiv
        go_enter Tryd.func21, Tryd.ntmps21
        go_wp2_with fail
        rw [HW1.out]
        refine (cloneStr_any A c env w1 (Kd.F_now E1.out) f1000).mono ?_
        rintro e w2 ⟨v2, rfl, hr2, hb2⟩
        have R2 := Aside0.mk hr2
        have D2 := Aside0.mk hb2
        clear hr2 hb2
        go_wp2_with fail
        refine (slices_Reverse_string_string.calls k (fun _ => True) v2 env rv w1 w2 D2.out R2.out HRV.out).mono ?_
        rintro e w3 ⟨rfl, hr3, hb3, hk3⟩
        obtain ⟨A3, c3, rfl, hle3, hC3⟩ := Kd.R_reads hr3
        have C3 := Aside0.mk hC3
        have L3 := Aside0.mk hle3
        have N3 := Aside0.mk (Kd.R_below N1.out hb3)
        have G3 := Aside0.mk (blk_below G1.out hb3)
        have K3 := Aside0.mk (Kept.below K1.out hb3)
        have Y3 := Aside0.mk (LowB.below Y1.out hgnl hb3)
        have B53 : w3.cell? ⟨w.heap.size, 5, none⟩ = some (.string x.f5) := pw_cell_below hb3 B5
        have B93 : w3.cell? ⟨w.heap.size, 9, none⟩ = some (.int .i64 x.f9) := pw_cell_below hb3 B9
        have B03 := Aside0.mk (blk_below B1.out hb3)
        clear hr3 hb3 hk3 hC3 hle3
        go_wp2_with fail
        refine (slices_Index_string_string.calls k A3 c3 rv x.f5 iv w3 C3.out L3.out HIV.out).mono ?_
        rintro e w4 ⟨rfl, ⟨nd, rfl⟩⟩
        obtain ⟨hc4, hf4⟩ := R_node N3.out an hlt2 (blankN x x.f4) (by rw [List.getElem?_set_self hlt])
        have f4 : (w3.drewN nd).cell? ⟨gn, an * 10 + 4, none⟩ = some (.int .i64 x.f4) := hc4 4 _ rfl
        have g4 : (w3.drewN nd).frozen? ⟨gn, an * 10 + 4, none⟩ = false := hf4 4
        have f93 : (w3.drewN nd).cell? ⟨w.heap.size, 9, none⟩ = some (.int .i64 x.f9) := B93
        have hwgn : w.heap.size ≠ gn := by omega
        clear hc4 hf4
        have HD3 := Aside0.mk (Kd.R_drewN N3.out nd)
        have HRW := Aside0.mk (R_field HD3.out an hlt2 (blankN x x.f4) (blankN x iv) (by rw [List.getElem?_set_self hlt]) 4 (.int .i64 iv) (by omega) rfl)
        have HKW := Aside0.mk (Kept.setCell (Kept.drewN K3.out nd) (p := ⟨gn, an * 10 + 4, none⟩) (.inl rfl) (.int .i64 iv))
        have HYW := Aside0.mk (LowB.set_ (LowB.drewN Y3.out hgnl nd) (an * 10 + 4) (.int .i64 iv))
        have hsz : w.heap.size < w3.heap.size := World.block_lt_of_cell? w3 _ B93
        have HSZ := Aside0.mk hsz
        clear hsz HD3
        by_cases hneg : iv < 0
        · have h := H2.out
          rw [if_pos hneg] at h
          simp only [Option.some.injEq, Prod.mk.injEq] at h
          obtain ⟨rfl, rfl⟩ := h
          have b1 : decide (iv < 0) = true := decide_eq_true hneg
          clear H2 hneg
          go_wp2_with fail
          go_ret
          refine ⟨_, rfl, ⟨w3.heap.size, Nat.le_of_lt HSZ.out, rfl, new_at (by simp [World.setCell]) _⟩, ?_, Kept.alloc HKW.out _, LowB.alloc HYW.out hgnl _⟩
          · have h1 := HRW.out
            rw [List.set_set] at h1
            exact Kd.R_alloc h1 _
        · have h := H2.out
          rw [if_neg hneg] at h
          simp only [Option.some.injEq, Prod.mk.injEq] at h
          obtain ⟨rfl, rfl⟩ := h
          have b1 : decide (iv < 0) = false := decide_eq_false hneg
          have d0 : ((w3.drewN nd).setCell ⟨gn, an * 10 + 4, none⟩ (.int .i64 iv)).cell? ⟨w.heap.size, 0, none⟩ = some (.int .i64 x.f0) := blk_cell (blk_far (w := w3.drewN nd) B03.out hwgn _) 0
          have hk0 : kidsN x.f0 = 0 := by
            have : x.f0 = 0 := beq_iff_eq.mp q0
            rw [this]
            rfl
          have HK0 := Aside0.mk hk0
          clear H2 hneg hk0
          go_wp2_with fail
          refine (kids_calls w.heap.size 0 x.f0 _ d0).mono ?_
          rintro e w5 ⟨rfl, hb5, _⟩
          rw [HK0.out]
          have HB5 := Aside0.mk hb5
          clear hb5 d0
          show _
          go_wp2_with fail
          refine wp_loop_rounds 1 ?_
          rw [rounds_succ]
          go_wp2_with fail
          go_ret
          have h1 := HRW.out
          rw [List.set_set] at h1
          exact ⟨_, rfl, rfl, Kd.R_below h1 HB5.out, Kept.below HKW.out HB5.out, LowB.below HYW.out hgnl HB5.out⟩
      · by_cases k9 : x.f0 = 9 ∨ x.f0 = 10
        · skip
          have h := H.out
          rw [if_neg k0, if_pos k9] at h
          have HQ := Aside0.mk h
          have HK9 := Aside0.mk k9
          have q0 : (x.f0 == 0) = false := beq_eq_false_iff_ne.mpr k0
          have B5 : w1.cell? ⟨w.heap.size, 5, none⟩ = some (.string x.f5) := blk_cell B1.out 5
          have hq9 : (∃ W, (x.f0 == 9) = true ∧ W = w1) ∨ (∃ W, (x.f0 == 9) = false ∧ (x.f0 == 10) = true ∧ W = w1) := by
            by_cases e9 : x.f0 = 9
            · exact .inl ⟨_, beq_iff_eq.mpr e9, rfl⟩
            · exact .inr ⟨_, beq_eq_false_iff_ne.mpr e9, beq_iff_eq.mpr (k9.resolve_left e9), rfl⟩
          clear h H k0 HK9 k9
          rcases hq9 with ⟨_, q9, _⟩ | ⟨_, q9, q10, _⟩
          all_goals
            go_enter Tryd.func21, Tryd.ntmps21
            go_wp2_with fail
            rw [HW1.out]
            refine (op_calls g x.f5 Ao co ops _ w1 G1.out (Kd.F_now O1.out) h4).mono ?_
            rintro e wo ⟨rfl, hbo⟩
            obtain ⟨iv, hiv⟩ : ∃ iv, opIdx x.f5 ops 0 = iv := ⟨_, rfl⟩
            rw [hiv]
            have HQ2 := HQ.out
            rw [hiv] at HQ2
            have HQ3 := Aside0.mk HQ2
            have N3 := Aside0.mk (Kd.R_below N1.out hbo)
            have O3 := Aside0.mk (Kd.F_below O1.out hbo)
            have E3 := Aside0.mk (Kd.F_below E1.out hbo)
            have G3 := Aside0.mk (blk_below G1.out hbo)
            have K3 := Aside0.mk (Kept.below K1.out hbo)
            have Y3 := Aside0.mk (LowB.below Y1.out hgnl hbo)
            have B3 := Aside0.mk (blk_below B1.out hbo)
            have B93 : wo.cell? ⟨w.heap.size, 9, none⟩ = some (.int .i64 x.f9) := blk_cell B3.out 9
            obtain ⟨hc4, hf4⟩ := R_node N3.out an hlt2 (blankN x x.f4) (by rw [List.getElem?_set_self hlt])
            have f4 : wo.cell? ⟨gn, an * 10 + 4, none⟩ = some (.int .i64 x.f4) := hc4 4 _ rfl
            have g4 : wo.frozen? ⟨gn, an * 10 + 4, none⟩ = false := hf4 4
            have hwgn : w.heap.size ≠ gn := by omega
            have hsz : w.heap.size < wo.heap.size := World.block_lt_of_cell? wo _ B93
            have HSZ := Aside0.mk hsz
            have HRW := Aside0.mk (R_field N3.out an hlt2 (blankN x x.f4) (blankN x iv) (by rw [List.getElem?_set_self hlt]) 4 (.int .i64 iv) (by omega) rfl)
            clear hc4 hf4 hiv HQ HQ2 hbo hsz N1 O1 E1 G1 K1 B1 HW1
            by_cases hneg : iv < 0
            · have h := HQ3.out
              rw [if_pos hneg] at h
              simp only [Option.some.injEq, Prod.mk.injEq] at h
              obtain ⟨rfl, rfl⟩ := h
              have b1 : decide (iv < 0) = true := decide_eq_true hneg
              clear HQ3 hneg
              go_wp2_with fail
              go_ret
              refine ⟨_, rfl, ⟨wo.heap.size, Nat.le_of_lt HSZ.out, rfl, new_at (by simp [World.setCell]) _⟩, ?_, Kept.alloc (Kept.setCell K3.out (p := ⟨gn, an * 10 + 4, none⟩) (.inl rfl) (.int .i64 iv)) _, LowB.alloc (LowB.set_ Y3.out (an * 10 + 4) (.int .i64 iv)) hgnl _⟩
              have h1 := HRW.out
              rw [List.set_set] at h1
              exact Kd.R_alloc h1 _
            · have h := HQ3.out
              rw [if_neg hneg] at h
              have H2 := Aside0.mk h
              have b1 : decide (iv < 0) = false := decide_eq_false hneg
              have h1 := HRW.out
              rw [List.set_set] at h1
              have N1 := Aside0.mk h1
              have O1 := Aside0.mk (Kd.F_far O3.out (p := ⟨gn, an * 10 + 4, none⟩) (fun _ h => h) (.int .i64 iv))
              have E1 := Aside0.mk (Kd.F_far E3.out (p := ⟨gn, an * 10 + 4, none⟩) (fun _ h => h) (.int .i64 iv))
              have G1 := Aside0.mk (blk_far (p := ⟨gn, an * 10 + 4, none⟩) G3.out hgne (.int .i64 iv))
              have K1 := Aside0.mk (Kept.setCell K3.out (p := ⟨gn, an * 10 + 4, none⟩) (.inl rfl) (.int .i64 iv))
              have Y1 := Aside0.mk (LowB.set_ Y3.out (an * 10 + 4) (.int .i64 iv))
              have B1 := Aside0.mk (blk_far (p := ⟨gn, an * 10 + 4, none⟩) B3.out hwgn (.int .i64 iv))
              clear HQ3 hneg h h1 HRW N3 O3 E3 G3 K3 B3
              go_wp2_with fail
              clear f4 g4 B93 B5
              generalize wo.setCell ⟨gn, an * 10 + 4, none⟩ (.int .i64 iv) = w1 at *
              have d0 : w1.cell? ⟨w.heap.size, 0, none⟩ = some (.int .i64 x.f0) := blk_cell B1.out 0
              refine (kids_calls w.heap.size 0 x.f0 w1 d0).mono ?_
              rintro e w2 ⟨rfl, hb2, hp2⟩
              have hqw : w.heap.size < w1.heap.size := blk_lt B1.out
              obtain ⟨q, hq⟩ : ∃ q, w1.heap.size = q := ⟨_, rfl⟩
              rw [hq] at hp2 hqw ⊢
              have N2 := Aside0.mk (Kd.R_below N1.out hb2)
              have O2 := Aside0.mk (Kd.F_below O1.out hb2)
              have E2 := Aside0.mk (Kd.F_below E1.out hb2)
              have G2 := Aside0.mk (blk_below G1.out hb2)
              have B2 := Aside0.mk (blk_below B1.out hb2)
              have K2 := Aside0.mk (Kept.below K1.out hb2)
              have Y2 := Aside0.mk (LowB.below Y1.out hgnl hb2)
              have P2 := Aside0.mk hp2
              have hn3 := kidsN_le x.f0
              have hkl := kidsOf_len x
              have HKL := Aside0.mk hkl
              generalize hN : kidsN x.f0 = n3 at *
              have hl2 := fieldPtrs_len w.heap.size (0 + 1) n3
              have HL2 := Aside0.mk hl2
              clear hb2 hp2 d0 hl2 hN hkl hq x0 x1 x2 x3 x4 x5 x6 x7 x8 x9 y5 y6 y7 y8 c0 c1
              try clear q0
              try clear q9
              try clear q10
              try clear HW1
              go_wp2_with fail
              go_loopw [87] (fun v87 wr => ∃ (j : Nat) (nsj : List S34), v87 = .int .i64 j ∧ j ≤ n3 ∧ Aside0 (goKids (rnode.f k ops) x env ((kidsOf x).drop j) j nsj = some (r, ns')) ∧ Aside0 (nsj.length = nn) ∧ Aside0 (wr.heap[g]? = some (.cells #[.slice Ao ops.length co, .slice (some ⟨gn, 0, none⟩) nn cap] 51 (0, 0))) ∧ Aside0 (Kd.F k45 wr (fun k => k ≠ gn) Ao ops.length ops) ∧ Aside0 (Kd.R k34 34 wr base (fun k => k = gn) (.slice (some ⟨gn, 0, none⟩) nn cap) nsj) ∧ Aside0 (Kd.F Kd.string wr (fun k => k ≠ gn) A env.length env) ∧ Aside0 (Kept w wr (fun k => k = gn)) ∧ Aside0 (LowB gn w wr) ∧ Aside0 (wr.heap[w.heap.size]? = some (.cells (nodeCells x).toArray 34 (0, 0))) ∧ Aside0 (0 < n3 → wr.heap[q]? = some (.cells (fieldPtrs w.heap.size (0 + 1) n3).toArray 74 (0, 0)))) (fun v87 _ => n3 - (intOf v87).toNat)
              case atStart => exact ⟨0, _, rfl, Nat.zero_le _, H2, ⟨by rw [List.length_set]; exact HNN.out⟩, G2, O2, N2, E2, K2, Y2, B2, P2⟩
              case round =>
                obtain ⟨j, nsj, rfl, hj, HG, HNJ, GR, OR, NR, ER, KR, YR, BR, PR⟩ := hrel
                clear H2 G2 O2 N2 E2 K2 B2 P2 G1 O1 N1 E1 K1 B1
                by_cases hltj : j < n3
                · have hpA : ptrOf q n3 = some ⟨q, 0, none⟩ := ptrOf_some (by omega)
                  rw [hpA]
                  have hlen : (kidsOf x).length = n3 := HKL.out
                  obtain ⟨c5, hc5⟩ : ∃ c5, (kidsOf x)[j]? = some c5 := ⟨_, List.getElem?_eq_getElem (by omega)⟩
                  have hdrop : (kidsOf x).drop j = c5 :: (kidsOf x).drop (j + 1) := (hr_drop hc5).symm
                  have HCELL := Aside0.mk (node_cells x BR.out j c5 hc5)
                  have d2 : wr.cell? ⟨q, j, none⟩ = some (.pointer (some ⟨w.heap.size, 1 + j, none⟩)) := by
                    rw [blk_cell (PR.out (by omega)) j, List.getElem?_toArray]
                    exact fieldPtrs_get _ _ _ _ hltj
                  have HG' := HG.out
                  rw [hdrop, goKids] at HG'
                  replace HG' := Option.bind_eq_some_iff.mp HG'
                  obtain ⟨⟨r1, ns1⟩, hr1, HG'⟩ := HG'
                  have HR1 := Aside0.mk hr1
                  have HG2 := Aside0.mk HG'
                  clear hdrop hlen HG hc5 hr1 HG' hpA
                  have hjlt : j < 3 := by omega
                  have hbl := boundOf_le x j
                  have S0 : wr.cell? ⟨w.heap.size, 1 + j, none⟩ = some (.int .i64 c5) := HCELL.out
                  have hwz : w.heap.size < wr.heap.size := blk_lt BR.out
                  go_wp2_with fail
                  go_region_held3 (fun w' => w'.cell? ⟨w.heap.size, 1 + j, none⟩ = some (.int .i64 c5)) (first | go_keep | exact S0 | exact S3.out | exact S4.out | exact S5.out | exact S6.out)
                    ((first
                      | (go_at_call 32; refine (bound_calls w.heap.size x j _ hjlt ?b0 ?b6 ?b7 ?b8).mono ?_; (case b0 => exact blk_cell BR.out 0); (case b6 => exact blk_cell BR.out 6); (case b7 => exact blk_cell BR.out 7); (case b8 => exact blk_cell BR.out 8); rintro e w3 ⟨A3, c3, rfl, hc3, hC3, hb3⟩; have hb3 : Below wr.heap.size wr w3 := (below_drew (Below.refl _ _)).trans hb3; have N3 := Aside0.mk (Kd.R_below NR.out hb3); have O3 := Aside0.mk (Kd.F_below OR.out hb3); have E3 := Aside0.mk (Kd.F_below ER.out hb3); have G3 := Aside0.mk (blk_below GR.out hb3); have B3 := Aside0.mk (blk_below BR.out hb3); have P3 := Aside0.mk (fun h => blk_below (PR.out h) hb3); have K3 := Aside0.mk (Kept.below KR.out hb3); have Y3 := Aside0.mk (LowB.below YR.out hgnl hb3); have S3 := Aside0.mk (pw_cell_below hb3 HCELL.out); have C3 := Aside0.mk hC3; have Z3 := Aside0.mk hb3.size; clear hC3 hb3 hc3)
                      | (go_at_call 31; refine (concat2_calls w3.heap.size A A3 c c3 env (boundOf x j) _ ?g0 ?g1 ?g2 (by omega) (by omega)).mono ?_; (case g0 => exact heap_alloc_new w3 _); (case g1 => exact Kd.F_now (Kd.F_alloc E3.out _)); (case g2 => exact Kd.C_alloc C3.out _); rintro e w5 ⟨v5, rfl, hr5, hb5⟩; obtain ⟨A5, c6, rfl, hle5, _⟩ := Kd.R_reads hr5; have E5 := Aside0.mk (env_foot hr5 (gn := gn) (by have := Z3.out; simp; omega)); have hb5 : Below w3.heap.size w3 w5 := ((Below.refl _ _).alloc (Nat.le_refl _) _).trans (hb5.mono (by simp)); have N5 := Aside0.mk (Kd.R_below N3.out hb5); have O5 := Aside0.mk (Kd.F_below O3.out hb5); have F5 := Aside0.mk (Kd.F_below E3.out hb5); have G5 := Aside0.mk (blk_below G3.out hb5); have B5 := Aside0.mk (blk_below B3.out hb5); have P5 := Aside0.mk (fun h => blk_below (P3.out h) hb5); have K5 := Aside0.mk (Kept.below K3.out hb5); have Y5 := Aside0.mk (LowB.below Y3.out hgnl hb5); have S5 := Aside0.mk (pw_cell_below hb5 S3.out); have L5 := Aside0.mk hle5; clear hr5 hb5 hle5)
                      | (go_at_call 21; rw [← List.length_append]; (with_reducible refine (IH.out g gn cap nn Ao co ops nsj c5 A5 c6 (env ++ boundOf x j) r1 ns1 base w5 HNJ.out G5.out O5.out N5.out E5.out L5.out HR1.out).mono ?_); rintro e w6 ⟨v6, rfl, he6, hn6, hk6, hy6⟩; have HY6 := Aside0.mk hy6; have S6 := Aside0.mk (cell_kept S5.out hk6 (by show w.heap.size ≠ gn; omega)); have HE6 := Aside0.mk he6; have N6 := Aside0.mk hn6; have HK6 := Aside0.mk hk6; clear he6 hn6 hk6 hy6)))
                  have hwgn : w.heap.size ≠ gn := by omega
                  have hwgn1 : q ≠ gn := by omega
                  rcases r1 with _ | ⟨ea, ec⟩
                  · obtain rfl : v6 = .nilIface := HE6.out
                    have hg2 : goKids (rnode.f k ops) x env ((kidsOf x).drop (j + 1)) (j + 1) ns1 = some (r, ns') := HG2.out
                    have HG3 := Aside0.mk hg2
                    clear hg2 HG2 HE6 HR1
                    go_wp2_with fail
                    go_roundw
                    case rel => exact ⟨j + 1, ns1, by go_num, by omega, HG3, ⟨(Kd.R_reads' N6.out).1.symm⟩, ⟨blk_kept G5.out HK6.out hgne⟩, ⟨Kd.F_kept O5.out HK6.out (fun _ h => h)⟩, ⟨N6.out⟩, ⟨Kd.F_kept F5.out HK6.out (fun _ h => h)⟩, ⟨Kept.then_ K5.out HK6.out (fun _ h => .inl h)⟩, ⟨LowB.trans Y5.out HY6.out⟩, ⟨blk_kept B5.out HK6.out hwgn⟩, ⟨fun h => blk_kept (P5.out h) HK6.out hwgn1⟩⟩
                    case measure => simp [intOf]; omega
                  · obtain ⟨ge, hge, rfl, hbe⟩ : ∃ ge, w5.heap.size ≤ ge ∧ v6 = .iface 61 (.pointer (some ⟨ge, 0, none⟩)) ∧ w6.heap[ge]? = some (.cells #[.int .i64 ea, .iface 27 (.int .i64 ec)] 66 (0, 0)) := HE6.out
                    have hg2 : (some (some (ea, ec), ns1) : Option (Option (Int × Int) × List S34)) = some (r, ns') := HG2.out
                    simp only [Option.some.injEq, Prod.mk.injEq] at hg2
                    obtain ⟨rfl, rfl⟩ := hg2
                    have HBE := Aside0.mk hbe
                    clear HG2 HE6 HR1 hbe
                    go_wp2_with fail
                    go_ret
                    exact ⟨_, rfl, ⟨ge, by have := K5.out.1; omega, rfl, HBE.out⟩, N6.out, Kept.then_ K5.out HK6.out (fun _ h => .inl h), LowB.trans Y5.out HY6.out⟩
                · have hin : j = n3 := by omega
                  have HG' := HG.out
                  rw [List.drop_eq_nil_of_le (by rw [HKL.out]; omega), goKids] at HG'
                  simp only [Option.some.injEq, Prod.mk.injEq] at HG'
                  obtain ⟨rfl, rfl⟩ := HG'
                  clear HG hin
                  go_wp2
                  go_ret
                  exact ⟨_, rfl, rfl, NR.out, KR.out, YR.out⟩
        · have h := H.out
          rw [if_neg k0, if_neg k9] at h
          have H2 := Aside0.mk h
          have q0 : (x.f0 == 0) = false := beq_eq_false_iff_ne.mpr k0
          have q9 : (x.f0 == 9) = false := beq_eq_false_iff_ne.mpr (fun e => k9 (.inl e))
          have q10 : (x.f0 == 10) = false := beq_eq_false_iff_ne.mpr (fun e => k9 (.inr e))
          clear h H k0 k9
          go_enter Tryd.func21, Tryd.ntmps21
          go_wp2_with fail
          rw [HW1.out]
          have d0 : w1.cell? ⟨w.heap.size, 0, none⟩ = some (.int .i64 x.f0) := blk_cell B1.out 0
          refine (kids_calls w.heap.size 0 x.f0 w1 d0).mono ?_
          rintro e w2 ⟨rfl, hb2, hp2⟩
          have hqw : w.heap.size < w1.heap.size := blk_lt B1.out
          obtain ⟨q, hq⟩ : ∃ q, w1.heap.size = q := ⟨_, rfl⟩
          rw [hq] at hp2 hqw ⊢
          have N2 := Aside0.mk (Kd.R_below N1.out hb2)
          have O2 := Aside0.mk (Kd.F_below O1.out hb2)
          have E2 := Aside0.mk (Kd.F_below E1.out hb2)
          have G2 := Aside0.mk (blk_below G1.out hb2)
          have B2 := Aside0.mk (blk_below B1.out hb2)
          have K2 := Aside0.mk (Kept.below K1.out hb2)
          have Y2 := Aside0.mk (LowB.below Y1.out hgnl hb2)
          have P2 := Aside0.mk hp2
          have hn3 := kidsN_le x.f0
          have hkl := kidsOf_len x
          have HKL := Aside0.mk hkl
          generalize hN : kidsN x.f0 = n3 at *
          have hl2 := fieldPtrs_len w.heap.size (0 + 1) n3
          have HL2 := Aside0.mk hl2
          clear hb2 hp2 d0 hl2 hN hkl hq x0 x1 x2 x3 x4 x5 x6 x7 x8 x9 y5 y6 y7 y8 c0 c1
          try clear q0
          try clear q9
          try clear q10
          try clear HW1
          go_wp2_with fail
          go_loopw [87] (fun v87 wr => ∃ (j : Nat) (nsj : List S34), v87 = .int .i64 j ∧ j ≤ n3 ∧ Aside0 (goKids (rnode.f k ops) x env ((kidsOf x).drop j) j nsj = some (r, ns')) ∧ Aside0 (nsj.length = nn) ∧ Aside0 (wr.heap[g]? = some (.cells #[.slice Ao ops.length co, .slice (some ⟨gn, 0, none⟩) nn cap] 51 (0, 0))) ∧ Aside0 (Kd.F k45 wr (fun k => k ≠ gn) Ao ops.length ops) ∧ Aside0 (Kd.R k34 34 wr base (fun k => k = gn) (.slice (some ⟨gn, 0, none⟩) nn cap) nsj) ∧ Aside0 (Kd.F Kd.string wr (fun k => k ≠ gn) A env.length env) ∧ Aside0 (Kept w wr (fun k => k = gn)) ∧ Aside0 (LowB gn w wr) ∧ Aside0 (wr.heap[w.heap.size]? = some (.cells (nodeCells x).toArray 34 (0, 0))) ∧ Aside0 (0 < n3 → wr.heap[q]? = some (.cells (fieldPtrs w.heap.size (0 + 1) n3).toArray 74 (0, 0)))) (fun v87 _ => n3 - (intOf v87).toNat)
          case atStart => exact ⟨0, _, rfl, Nat.zero_le _, H2, ⟨by rw [List.length_set]; exact HNN.out⟩, G2, O2, N2, E2, K2, Y2, B2, P2⟩
          case round =>
            obtain ⟨j, nsj, rfl, hj, HG, HNJ, GR, OR, NR, ER, KR, YR, BR, PR⟩ := hrel
            clear H2 G2 O2 N2 E2 K2 B2 P2 G1 O1 N1 E1 K1 B1
            by_cases hltj : j < n3
            · have hpA : ptrOf q n3 = some ⟨q, 0, none⟩ := ptrOf_some (by omega)
              rw [hpA]
              have hlen : (kidsOf x).length = n3 := HKL.out
              obtain ⟨c5, hc5⟩ : ∃ c5, (kidsOf x)[j]? = some c5 := ⟨_, List.getElem?_eq_getElem (by omega)⟩
              have hdrop : (kidsOf x).drop j = c5 :: (kidsOf x).drop (j + 1) := (hr_drop hc5).symm
              have HCELL := Aside0.mk (node_cells x BR.out j c5 hc5)
              have d2 : wr.cell? ⟨q, j, none⟩ = some (.pointer (some ⟨w.heap.size, 1 + j, none⟩)) := by
                rw [blk_cell (PR.out (by omega)) j, List.getElem?_toArray]
                exact fieldPtrs_get _ _ _ _ hltj
              have HG' := HG.out
              rw [hdrop, goKids] at HG'
              replace HG' := Option.bind_eq_some_iff.mp HG'
              obtain ⟨⟨r1, ns1⟩, hr1, HG'⟩ := HG'
              have HR1 := Aside0.mk hr1
              have HG2 := Aside0.mk HG'
              clear hdrop hlen HG hc5 hr1 HG' hpA
              have hjlt : j < 3 := by omega
              have hbl := boundOf_le x j
              have S0 : wr.cell? ⟨w.heap.size, 1 + j, none⟩ = some (.int .i64 c5) := HCELL.out
              have hwz : w.heap.size < wr.heap.size := blk_lt BR.out
              go_wp2_with fail
              go_region_held3 (fun w' => w'.cell? ⟨w.heap.size, 1 + j, none⟩ = some (.int .i64 c5)) (first | go_keep | exact S0 | exact S3.out | exact S4.out | exact S5.out | exact S6.out)
                ((first
                  | (go_at_call 32; refine (bound_calls w.heap.size x j _ hjlt ?b0 ?b6 ?b7 ?b8).mono ?_; (case b0 => exact blk_cell BR.out 0); (case b6 => exact blk_cell BR.out 6); (case b7 => exact blk_cell BR.out 7); (case b8 => exact blk_cell BR.out 8); rintro e w3 ⟨A3, c3, rfl, hc3, hC3, hb3⟩; have hb3 : Below wr.heap.size wr w3 := (below_drew (Below.refl _ _)).trans hb3; have N3 := Aside0.mk (Kd.R_below NR.out hb3); have O3 := Aside0.mk (Kd.F_below OR.out hb3); have E3 := Aside0.mk (Kd.F_below ER.out hb3); have G3 := Aside0.mk (blk_below GR.out hb3); have B3 := Aside0.mk (blk_below BR.out hb3); have P3 := Aside0.mk (fun h => blk_below (PR.out h) hb3); have K3 := Aside0.mk (Kept.below KR.out hb3); have Y3 := Aside0.mk (LowB.below YR.out hgnl hb3); have S3 := Aside0.mk (pw_cell_below hb3 HCELL.out); have C3 := Aside0.mk hC3; have Z3 := Aside0.mk hb3.size; clear hC3 hb3 hc3)
                  | (go_at_call 31; refine (concat2_calls w3.heap.size A A3 c c3 env (boundOf x j) _ ?g0 ?g1 ?g2 (by omega) (by omega)).mono ?_; (case g0 => exact heap_alloc_new w3 _); (case g1 => exact Kd.F_now (Kd.F_alloc E3.out _)); (case g2 => exact Kd.C_alloc C3.out _); rintro e w5 ⟨v5, rfl, hr5, hb5⟩; obtain ⟨A5, c6, rfl, hle5, _⟩ := Kd.R_reads hr5; have E5 := Aside0.mk (env_foot hr5 (gn := gn) (by have := Z3.out; simp; omega)); have hb5 : Below w3.heap.size w3 w5 := ((Below.refl _ _).alloc (Nat.le_refl _) _).trans (hb5.mono (by simp)); have N5 := Aside0.mk (Kd.R_below N3.out hb5); have O5 := Aside0.mk (Kd.F_below O3.out hb5); have F5 := Aside0.mk (Kd.F_below E3.out hb5); have G5 := Aside0.mk (blk_below G3.out hb5); have B5 := Aside0.mk (blk_below B3.out hb5); have P5 := Aside0.mk (fun h => blk_below (P3.out h) hb5); have K5 := Aside0.mk (Kept.below K3.out hb5); have Y5 := Aside0.mk (LowB.below Y3.out hgnl hb5); have S5 := Aside0.mk (pw_cell_below hb5 S3.out); have L5 := Aside0.mk hle5; clear hr5 hb5 hle5)
                  | (go_at_call 21; rw [← List.length_append]; (with_reducible refine (IH.out g gn cap nn Ao co ops nsj c5 A5 c6 (env ++ boundOf x j) r1 ns1 base w5 HNJ.out G5.out O5.out N5.out E5.out L5.out HR1.out).mono ?_); rintro e w6 ⟨v6, rfl, he6, hn6, hk6, hy6⟩; have HY6 := Aside0.mk hy6; have S6 := Aside0.mk (cell_kept S5.out hk6 (by show w.heap.size ≠ gn; omega)); have HE6 := Aside0.mk he6; have N6 := Aside0.mk hn6; have HK6 := Aside0.mk hk6; clear he6 hn6 hk6 hy6)))
              have hwgn : w.heap.size ≠ gn := by omega
              have hwgn1 : q ≠ gn := by omega
              rcases r1 with _ | ⟨ea, ec⟩
              · obtain rfl : v6 = .nilIface := HE6.out
                have hg2 : goKids (rnode.f k ops) x env ((kidsOf x).drop (j + 1)) (j + 1) ns1 = some (r, ns') := HG2.out
                have HG3 := Aside0.mk hg2
                clear hg2 HG2 HE6 HR1
                go_wp2_with fail
                go_roundw
                case rel => exact ⟨j + 1, ns1, by go_num, by omega, HG3, ⟨(Kd.R_reads' N6.out).1.symm⟩, ⟨blk_kept G5.out HK6.out hgne⟩, ⟨Kd.F_kept O5.out HK6.out (fun _ h => h)⟩, ⟨N6.out⟩, ⟨Kd.F_kept F5.out HK6.out (fun _ h => h)⟩, ⟨Kept.then_ K5.out HK6.out (fun _ h => .inl h)⟩, ⟨LowB.trans Y5.out HY6.out⟩, ⟨blk_kept B5.out HK6.out hwgn⟩, ⟨fun h => blk_kept (P5.out h) HK6.out hwgn1⟩⟩
                case measure => simp [intOf]; omega
              · obtain ⟨ge, hge, rfl, hbe⟩ : ∃ ge, w5.heap.size ≤ ge ∧ v6 = .iface 61 (.pointer (some ⟨ge, 0, none⟩)) ∧ w6.heap[ge]? = some (.cells #[.int .i64 ea, .iface 27 (.int .i64 ec)] 66 (0, 0)) := HE6.out
                have hg2 : (some (some (ea, ec), ns1) : Option (Option (Int × Int) × List S34)) = some (r, ns') := HG2.out
                simp only [Option.some.injEq, Prod.mk.injEq] at hg2
                obtain ⟨rfl, rfl⟩ := hg2
                have HBE := Aside0.mk hbe
                clear HG2 HE6 HR1 hbe
                go_wp2_with fail
                go_ret
                exact ⟨_, rfl, ⟨ge, by have := K5.out.1; omega, rfl, HBE.out⟩, N6.out, Kept.then_ K5.out HK6.out (fun _ h => .inl h), LowB.trans Y5.out HY6.out⟩
            · have hin : j = n3 := by omega
              have HG' := HG.out
              rw [List.drop_eq_nil_of_le (by rw [HKL.out]; omega), goKids] at HG'
              simp only [Option.some.injEq, Prod.mk.injEq] at HG'
              obtain ⟨rfl, rfl⟩ := HG'
              clear HG hin
              go_wp2
              go_ret
              exact ⟨_, rfl, rfl, NR.out, KR.out, YR.out⟩
    · rw [if_neg h0] at h; cases h
end Go.Proofs.YtfcjpkkglffnmaaDoor.H
