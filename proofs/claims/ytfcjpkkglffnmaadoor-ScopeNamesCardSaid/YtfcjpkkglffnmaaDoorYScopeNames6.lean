/- Several texts in one: contracts of functions of the program, and what they lean on. In part written by a program of this session over the kit's print, in part by hand. -/
import Derived.Test.YtfcjpkkglffnmaaDoorYScopeNames2
import Derived.Test.YtfcjpkkglffnmaaDoorYScopeNames5
import Derived.Test.YtfcjpkkglffnmaaDoorYScopeNames4
namespace Go.Proofs.YtfcjpkkglffnmaaDoor.H
open Go.RowKit Go.Proofs.YtfcjpkkglffnmaaDoorW.PrintWords Go.Proofs.YtfcjpkkglffnmaaDoorW.PrintLast Go.Proofs.YtfcjpkkglffnmaaDoorW.PrintMore
attribute [local go_sem] max2_int min2_int max_two min_two max_three min_three max_four min_four
set_option linter.unusedVariables false
set_option linter.unusedSimpArgs false
attribute [local go_sem high] eqA45
def trammellaw0_SameOps.l0 : Nat → List (S45) → List (S45) → Int → Option (Bool)
  | 0, _, _, _ => none
  | k + 1, x0, x1, x5 => if x5 < (x0.length : Int) then (if 0 ≤ x5 then (if x5 < (x1.length : Int) then (if (!((((rd_T45 x0 x5).f0).toList) == (((rd_T45 x1 x5).f0).toList)) || (!(((rd_T45 x0 x5).f1) == ((rd_T45 x1 x5).f1)) || (!(((rd_T45 x0 x5).f2) == ((rd_T45 x1 x5).f2))))) = true then (some false) else (trammellaw0_SameOps.l0 k x0 x1 (wrap64 (x5 + 1)))) else (none)) else (none)) else (some true)
def trammellaw0_SameOps.f (k : Nat) (l0 : List (S45)) (l1 : List (S45)) : Option (Bool) := if (l0.length : Int) = (l1.length : Int) then (trammellaw0_SameOps.l0 k l0 l1 0) else (some false)
set_option maxHeartbeats 8000000 in
set_option maxRecDepth 100000 in
theorem trammellaw0_SameOps.calls (k : Nat) (A0 : Option Addr) (c0 : Nat) (l0 : List (S45)) (A1 : Option Addr) (c1 : Nat) (l1 : List (S45)) (r : Bool) (w : World) (hr0 : Kd.C k45 w A0 l0.length l0) (hc0 : l0.length ≤ c0) (hr1 : Kd.C k45 w A1 l1.length l1) (hc1 : l1.length ≤ c1) (h : trammellaw0_SameOps.f k l0 l1 = some r) :
    Calls Tryd.prog 11 #[.slice A0 l0.length c0, .slice A1 l1.length c1] w fun e w' => e = .returned (.bool r) ∧ Drawn0 w w' := by
  have hu45 := Tryd.underlying45
  have HR0 := Aside0.mk hr0
  have HC0 := Aside0.mk hc0
  clear hr0 hc0
  have HR1 := Aside0.mk hr1
  have HC1 := Aside0.mk hc1
  clear hr1 hc1
  have H : (if (l0.length : Int) = (l1.length : Int) then (trammellaw0_SameOps.l0 k l0 l1 0) else (some false)) = some r := h
  clear h
  by_cases c3 : (l0.length : Int) = (l1.length : Int)
  · rw [if_pos c3] at H
    have c3b0 : ((l0.length : Int) == (l1.length : Int)) = true := beq_iff_eq.mpr c3
    have c3b1 : ((l0.length : Int) != (l1.length : Int)) = false := bne_eq_false_iff_eq.mpr c3
    have c3b2 : (l0.length == l1.length) = true := by first | simpa using c3 | (simp at c3 ⊢; omega)
    clear c3
    have H' := Aside0.mk H
    clear H
    go_enter Tryd.func11, Tryd.ntmps11
    go_wp2
    repeat (go_quiet (fail); try go_wp2)
    go_loopg [5] k (fun kq v5 w' => ∃ (x5_1 : Int), v5 = .int .i64 x5_1 ∧ Aside0 (trammellaw0_SameOps.l0 kq l0 l1 x5_1 = some r) ∧ Aside0 (kq ≤ k) ∧ Drawn0 w w')
    case atStart => exact ⟨(0), (by first | rfl | (simp; done) | (simp [*]; done)), H', ⟨Nat.le_refl _⟩, by repeat (first | exact Drawn0.refl _ | apply Drawn0.step)⟩
    case round =>
      clear H'
      try clear c1
      try clear p2
      try clear c3
      try clear c3b0
      try clear c3b1
      try clear c3b2
      obtain ⟨x5_1, rfl, HA, HK1, ⟨m1, rfl⟩⟩ := hrel
      cases gk with
      | zero => exact absurd HA.out (by simp [trammellaw0_SameOps.l0])
      | succ k1 =>
        have H := HA.out
        clear HA
        simp only [trammellaw0_SameOps.l0] at H
        by_cases c4 : x5_1 < (l0.length : Int)
        · rw [if_pos c4] at H
          have c4b0 : decide (x5_1 < (l0.length : Int)) = true := decide_eq_true c4
          clear c4
          by_cases c5 : 0 ≤ x5_1
          · rw [if_pos c5] at H
            have c5b0 : decide (0 ≤ x5_1) = true := decide_eq_true c5
            clear c5
            by_cases c6 : x5_1 < (l1.length : Int)
            · rw [if_pos c6] at H
              have c6b0 : decide (x5_1 < (l1.length : Int)) = true := decide_eq_true c6
              clear c6
              by_cases c7 : (!((((rd_T45 l0 x5_1).f0).toList) == (((rd_T45 l1 x5_1).f0).toList)) || (!(((rd_T45 l0 x5_1).f1) == ((rd_T45 l1 x5_1).f1)) || (!(((rd_T45 l0 x5_1).f2) == ((rd_T45 l1 x5_1).f2))))) = true
              · rw [if_pos c7] at H
                have c7b0 : (!((((rd_T45 l0 x5_1).f0).toList) == (((rd_T45 l1 x5_1).f0).toList)) || (!(((rd_T45 l0 x5_1).f1) == ((rd_T45 l1 x5_1).f1)) || (!(((rd_T45 l0 x5_1).f2) == ((rd_T45 l1 x5_1).f2))))) = true := c7
                clear c7
                obtain rfl := Option.some.inj H
                have p135 : 0 ≤ (x5_1 : Int) := of_decide_eq_true (by first | (with_reducible assumption) | assumption)
                have q135 : x5_1 < (l0.length : Int) := of_decide_eq_true (by first | (with_reducible assumption) | assumption)
                obtain ⟨ad135, e135, hx135_0, hx135_1, hx135_2⟩ := at_T45 HR0.out x5_1 p135 q135
                cases e135
                replace p135 := eq_true p135
                replace q135 := eq_true q135
                have p136 : 0 ≤ (x5_1 : Int) := of_decide_eq_true (by first | (with_reducible assumption) | assumption)
                have q136 : x5_1 < (l1.length : Int) := of_decide_eq_true (by first | (with_reducible assumption) | assumption)
                obtain ⟨ad136, e136, hx136_0, hx136_1, hx136_2⟩ := at_T45 HR1.out x5_1 p136 q136
                cases e136
                replace p136 := eq_true p136
                replace q136 := eq_true q136
                go_wp2
                repeat (go_quiet (fail); try go_wp2)
                go_ret
                exact ⟨by first | rfl | (simp; done) | (simp [*]; done), by repeat (first | exact Drawn0.refl _ | apply Drawn0.step)⟩
              · rw [if_neg c7] at H
                have c7b0 : (!((((rd_T45 l0 x5_1).f0).toList) == (((rd_T45 l1 x5_1).f0).toList)) || (!(((rd_T45 l0 x5_1).f1) == ((rd_T45 l1 x5_1).f1)) || (!(((rd_T45 l0 x5_1).f2) == ((rd_T45 l1 x5_1).f2))))) = false := by simpa using c7
                clear c7
                have H' := Aside0.mk H
                clear H
                have p135 : 0 ≤ (x5_1 : Int) := of_decide_eq_true (by first | (with_reducible assumption) | assumption)
                have q135 : x5_1 < (l0.length : Int) := of_decide_eq_true (by first | (with_reducible assumption) | assumption)
                obtain ⟨ad135, e135, hx135_0, hx135_1, hx135_2⟩ := at_T45 HR0.out x5_1 p135 q135
                cases e135
                replace p135 := eq_true p135
                replace q135 := eq_true q135
                have p136 : 0 ≤ (x5_1 : Int) := of_decide_eq_true (by first | (with_reducible assumption) | assumption)
                have q136 : x5_1 < (l1.length : Int) := of_decide_eq_true (by first | (with_reducible assumption) | assumption)
                obtain ⟨ad136, e136, hx136_0, hx136_1, hx136_2⟩ := at_T45 HR1.out x5_1 p136 q136
                cases e136
                replace p136 := eq_true p136
                replace q136 := eq_true q136
                go_wp2
                repeat (go_quiet (fail); try go_wp2)
                go_roundg k1
                case measure => have := HK1.out; omega
                case rel => exact ⟨(wrap64 (x5_1 + 1)), (by first | rfl | (simp; done) | (simp [*]; done)), H', ⟨by have := HK1.out; omega⟩, by repeat (first | exact Drawn0.refl _ | apply Drawn0.step)⟩
            · rw [if_neg c6] at H
              exact absurd H (by simp)
          · rw [if_neg c5] at H
            exact absurd H (by simp)
        · rw [if_neg c4] at H
          have c4b0 : decide (x5_1 < (l0.length : Int)) = false := decide_eq_false c4
          clear c4
          obtain rfl := Option.some.inj H
          go_wp2
          repeat (go_quiet (fail); try go_wp2)
          go_ret
          exact ⟨by first | rfl | (simp; done) | (simp [*]; done), by repeat (first | exact Drawn0.refl _ | apply Drawn0.step)⟩
  · rw [if_neg c3] at H
    have c3b0 : ((l0.length : Int) == (l1.length : Int)) = false := beq_eq_false_iff_ne.mpr c3
    have c3b1 : ((l0.length : Int) != (l1.length : Int)) = true := bne_iff_ne.mpr c3
    have c3b2 : (l0.length == l1.length) = false := by first | simpa using c3 | (simp at c3 ⊢; omega)
    obtain rfl := Option.some.inj H
    go_enter Tryd.func11, Tryd.ntmps11
    go_wp2
    repeat (go_quiet (fail); try go_wp2)
    go_ret
    exact ⟨by first | rfl | (simp; done) | (simp [*]; done), by repeat (first | exact Drawn0.refl _ | apply Drawn0.step)⟩
end Go.Proofs.YtfcjpkkglffnmaaDoor.H

set_option linter.unusedVariables false
set_option linter.unusedSimpArgs false
namespace Go.Proofs.YtfcjpkkglffnmaaDoor.H
open Go.RowKit Go.Proofs.YtfcjpkkglffnmaaDoorW.PrintWords Go.Proofs.YtfcjpkkglffnmaaDoorW.PrintLast Go.Proofs.YtfcjpkkglffnmaaDoorW.PrintMore
theorem sameO_loop (l : List S45) (hl : l.length ≤ 1000000000000000) : ∀ (d i k : Nat), l.length - i = d → i ≤ l.length → d < k → trammellaw0_SameOps.l0 k l l (i : Int) = some true := by
  intro d
  induction d with
  | zero =>
    intro i k hd hi hk
    obtain ⟨k, rfl⟩ : ∃ n, k = n + 1 := ⟨k - 1, by omega⟩
    simp only [trammellaw0_SameOps.l0]
    rw [if_neg (by omega)]
  | succ d ih =>
    intro i k hd hi hk
    obtain ⟨k, rfl⟩ : ∃ n, k = n + 1 := ⟨k - 1, by omega⟩
    simp only [trammellaw0_SameOps.l0]
    rw [if_pos (by omega), if_pos (by omega), if_pos (by omega)]
    simp only [beq_self_eq_true, Bool.not_true, Bool.or_false, Bool.false_eq_true, if_false]
    rw [wrapS (by omega) (by omega), show ((i : Int) + 1) = ((i + 1 : Nat) : Int) from by omega]
    exact ih (i + 1) k (by omega) (by omega) (by omega)
theorem sameO_self (l : List S45) (k : Nat) (hk : l.length < k) (hl : l.length ≤ 1000000000000000) : trammellaw0_SameOps.f k l l = some true := by
  unfold trammellaw0_SameOps.f
  rw [if_pos rfl]
  exact sameO_loop l hl l.length 0 k rfl (Nat.zero_le _) hk
theorem nm_size (s : ByteArray) (h : nm s.data.toList = true) : s.size ≤ 16 := by
  have e : s.size = s.data.toList.length := by rw [Array.length_toList]; rfl
  rw [e]
  unfold nm at h
  split at h
  · cases h
  · rename_i c r hcr
    simp only [Bool.and_eq_true, decide_eq_true_eq] at h
    rw [hcr, List.length_cons]
    omega
theorem ops_small (os : List S45) (h : opsMayS os = true) : os.length ≤ 4 ∧ (os.all fun o => decide (o.f0.size ≤ 1000)) = true := by
  simp only [opsMayS, Bool.and_eq_true, decide_eq_true_eq, List.all_eq_true] at h
  refine ⟨h.1, List.all_eq_true.2 fun o ho => ?_⟩
  have h2 := h.2 o ho
  simp only [opMayS, Bool.and_eq_true] at h2
  have := nm_size o.f0 h2.1
  exact decide_eq_true (by omega)
theorem shaped_parts (l : List S34) (named : Bool) (h : shapedS l named = true) : 1 ≤ l.length ∧ l.length ≤ 512 ∧ (∀ x ∈ l, mayS x named = true) ∧ beginS l ((l.length : Int) - 1) = 0 := by
  simp only [shapedS, Bool.and_eq_true, decide_eq_true_eq, List.all_eq_true, beq_iff_eq] at h
  exact ⟨h.1, h.2.1, h.2.2.1, h.2.2.2⟩
theorem resolve_does (os : List S45) (l : List S34) (k : Nat) (hk : 2200 ≤ k) : ∃ r1 r2 r3 r4, scope_Resolve.f k os l = some (r1, r2, r3, r4) ∧
    ((treeMayS os l = false ∧ r4 = 600 ∧ r1 = [] ∧ r2 = [] ∧ r3 = 0) ∨ (treeMayS os l = true ∧ (r4 = 601 ∨ r4 = 602) ∧ r1 = [] ∧ r2 = [] ∧ 0 ≤ r3) ∨
      (treeMayS os l = true ∧ twiceGo [] os = false ∧ r4 = 0 ∧ r1 = os ∧ r3 = 0 ∧ r2.length = l.length ∧ Done l r2 0 l.length ∧ ∀ kk, l.length ≤ kk → within.f kk (os.length : Int) r2 ((l.length : Int) - 1) 0 = some true)) := by
  rw [res_Q k (by omega), resQ]
  cases ht : treeMayS os l
  · exact ⟨_, _, _, _, rfl, .inl ⟨rfl, rfl, rfl, rfl, rfl⟩⟩
  · have ht2 := ht
    simp only [treeMayS, Bool.and_eq_true] at ht2
    obtain ⟨h4, hsz⟩ := ops_small os ht2.1
    obtain ⟨h1, h512, hall, hb⟩ := shaped_parts l true ht2.2
    rw [if_pos rfl, if_pos ⟨h4, h1, h512, hsz⟩]
    cases htw : twiceGo [] os
    · rw [if_neg (by simp)]
      have el : ((l.length : Int) - 1) = ((l.length - 1 : Nat) : Int) := by omega
      rw [el] at hb ⊢
      obtain ⟨r, ns', e, ⟨d1, d2, d3, d4⟩, w⟩ := node_does l os hall h512 h4 (l.length - 1) (l.length - 1) k l [] 0 rfl (by omega) hb rfl (fun _ _ _ => rfl) (by simp; omega) (by omega)
      rw [e, Option.bind_some]
      rcases r with _ | ⟨ea, ec⟩
      · have d := d3 rfl
        rw [show l.length - 1 + 1 = l.length by omega] at d
        refine ⟨_, _, _, _, rfl, .inr (.inr ⟨rfl, rfl, rfl, rfl, rfl, d1, d, fun kk hkk => ?_⟩)⟩
        exact w rfl kk (by omega)
      · obtain ⟨he, hc⟩ := d4 ea ec rfl
        have hc0 : ec ≠ 0 := by omega
        show ∃ r1 r2 r3 r4, (if ec = 0 then none else some ([], [], ea, ec)) = some (r1, r2, r3, r4) ∧ _
        rw [if_neg hc0]
        exact ⟨_, _, _, _, rfl, .inr (.inl ⟨rfl, hc, rfl, rfl, he⟩)⟩
    · rw [if_pos rfl]
      exact ⟨_, _, _, _, rfl, .inr (.inl ⟨rfl, .inr rfl, rfl, rfl, Int.le_refl _⟩)⟩
theorem begin_like (l m : List S34) (hlm : m.length = l.length) (h : ∀ i : Nat, i < l.length → kidsOf (rd_T34 m (i : Int)) = kidsOf (rd_T34 l (i : Int))) : ∀ (k : Nat) (a : Int), tree_Begin.f k m a = tree_Begin.f k l a
  | 0, a => rfl
  | k + 1, a => by
    rw [tree_Begin.f, tree_Begin.f, hlm]
    by_cases h0 : 0 ≤ a
    · rw [if_pos h0, if_pos h0]
      by_cases h1 : a < (l.length : Int)
      · obtain ⟨n, rfl⟩ := Int.eq_ofNat_of_zero_le h0
        rw [if_pos h1, if_pos h1, h n (by omega), show tree_Begin.f k m = tree_Begin.f k l from funext (begin_like l m hlm h k)]
      · rw [if_neg h1, if_neg h1]
    · rw [if_neg h0, if_neg h0]
end Go.Proofs.YtfcjpkkglffnmaaDoor.H

set_option linter.unusedVariables false
set_option linter.unusedSimpArgs false
namespace Go.Proofs.YtfcjpkkglffnmaaDoor.H
open Go.RowKit Go.Proofs.YtfcjpkkglffnmaaDoorW.PrintWords Go.Proofs.YtfcjpkkglffnmaaDoorW.PrintLast Go.Proofs.YtfcjpkkglffnmaaDoorW.PrintMore
def rn (s : ByteArray) : ByteArray := if s.toList = [] then s else s ++ ⟨#[95]⟩
def ren (x : S34) : S34 := ⟨x.f0, x.f1, x.f2, x.f3, x.f4, if x.f0 = 0 then rn x.f5 else x.f5, rn x.f6, rn x.f7, rn x.f8, x.f9⟩
theorem app_list (a b : ByteArray) : (a ++ b).toList = a.toList ++ b.toList := by
  rw [toList_data, toList_data, toList_data, ByteArray.data_append, Array.toList_append]
theorem rn_list (s : ByteArray) : (rn s).toList = if s.toList = [] then [] else s.toList ++ [95] := by
  unfold rn
  split
  · assumption
  · rw [app_list, toList_data ⟨#[95]⟩]
theorem rn_empty : rn ⟨#[]⟩ = ⟨#[]⟩ := by
  unfold rn
  rw [if_pos (by rw [toList_data])]
theorem rn_inj (s t : ByteArray) : rn s = rn t ↔ s = t := by
  constructor
  · intro h
    have h1 : (rn s).toList = (rn t).toList := by rw [h]
    rw [rn_list, rn_list] at h1
    apply toList_inj.1
    by_cases a : s.toList = [] <;> by_cases b : t.toList = []
    · rw [a, b]
    · rw [if_pos a, if_neg b] at h1
      simp at h1
    · rw [if_neg a, if_pos b] at h1
      simp at h1
    · rw [if_neg a, if_neg b] at h1
      exact List.append_cancel_right h1
  · rintro rfl
    rfl
theorem posOf_rn (s : ByteArray) : ∀ l i, posOf (rn s) (l.map rn) i = posOf s l i
  | [], i => rfl
  | x :: xs, i => by
    rw [List.map_cons, posOf, posOf, posOf_rn s xs (i + 1)]
    by_cases h : s = x
    · rw [if_pos h, if_pos (by rw [h])]
    · rw [if_neg h, if_neg (fun h' => h ((rn_inj s x).1 h'))]
theorem bound_ren (x : S34) (i : Nat) : boundOf (ren x) i = (boundOf x i).map rn := by
  unfold boundOf
  simp only [show (ren x).f0 = x.f0 from rfl]
  repeat' split
  all_goals rfl
theorem ren_blank (x : S34) (v : Int) : ren (blankN x v) = blankN x v := by
  unfold ren blankN
  simp only [rn_empty, ite_self]
theorem rd_ren (ns : List S34) (n : Nat) (h : n < ns.length) : rd_T34 (ns.map ren) (n : Int) = ren (rd_T34 ns (n : Int)) := by
  have e : ns[n]? = some ns[n] := List.getElem?_eq_getElem h
  rw [rd_some ns n _ e, rd_some (ns.map ren) n (ren ns[n]) (by rw [List.getElem?_map, e]; rfl)]
theorem set_ren (ns : List S34) (n : Nat) (x : S34) (v : Int) : (ns.map ren).set n (blankN (ren x) v) = (ns.set n (blankN x v)).map ren := by
  rw [List.map_set, ren_blank]
  rfl
theorem ren_node (ops : List S45) : ∀ (k : Nat) (ns : List S34) (a : Int) (env : List ByteArray) (r : Option (Int × Int)) (ns' : List S34), rnode.f k ops ns a env = some (r, ns') → rnode.f (k + 2100) ops (ns.map ren) a (env.map rn) = some (r, ns'.map ren) := by
  intro k
  induction k with
  | zero => intro ns a env r ns' h; exact absurd h (by simp [rnode.f])
  | succ k ih =>
    intro ns a env r ns' h
    rw [show k + 1 + 2100 = (k + 2100) + 1 from by omega, rnode.f]
    rw [rnode.f] at h
    by_cases h0 : 0 ≤ a ∧ a < (ns.length : Int) ∧ env.length ≤ 2000 ∧ ops.length ≤ 4
    · rw [if_pos h0] at h
      rw [if_pos (by rw [List.length_map, List.length_map]; exact h0)]
      obtain ⟨n, rfl⟩ := Int.eq_ofNat_of_zero_le h0.1
      have hlt : n < ns.length := by omega
      have go : ∀ (x : S34) (cs : List Int) (i : Nat) (ns2 : List S34) (r : Option (Int × Int)) (ns' : List S34), goKids (rnode.f k ops) x env cs i ns2 = some (r, ns') → goKids (rnode.f (k + 2100) ops) (ren x) (env.map rn) cs i (ns2.map ren) = some (r, ns'.map ren) := by
        intro x cs
        induction cs with
        | nil =>
          intro i ns2 r ns' h
          rw [goKids] at h ⊢
          obtain ⟨rfl, rfl⟩ := Prod.mk.inj (Option.some.inj h)
          rfl
        | cons c cs ihc =>
          intro i ns2 r ns' h
          rw [goKids] at h ⊢
          obtain ⟨⟨r1, ns3⟩, h1, h⟩ := Option.bind_eq_some_iff.mp h
          have h2 := ih ns2 c (env ++ boundOf x i) r1 ns3 h1
          rw [List.map_append, ← bound_ren] at h2
          rw [h2, Option.bind_some]
          rcases r1 with _ | e
          · exact ihc (i + 1) ns3 r ns' h
          · obtain ⟨rfl, rfl⟩ := Prod.mk.inj (Option.some.inj h)
            rfl
      rw [rd_ren ns n hlt]
      simp only [Int.toNat_natCast] at h ⊢
      generalize rd_T34 ns (n : Int) = x at *
      have k0 : kidsOf (ren x) = kidsOf x := rfl
      by_cases c0 : x.f0 = 0
      · rw [if_pos c0] at h
        rw [if_pos (show (ren x).f0 = 0 from c0)]
        obtain ⟨q, hq, h⟩ := Option.bind_eq_some_iff.mp h
        have hq2 := at_rounds (slices_Reverse_string_string.mono env) (show k ≤ k + 2100 by omega) hq
        rw [rev_is env (k + 2100) (by omega) (by omega)] at hq2
        obtain rfl := Option.some.inj hq2
        obtain ⟨j, hj, h⟩ := Option.bind_eq_some_iff.mp h
        have hj2 := at_rounds (slices_Index_string_string.mono env.reverse x.f5) (show k ≤ k + 2100 by omega) hj
        rw [index_is env.reverse x.f5 (k + 2100) (by simp; omega) (by simp; omega)] at hj2
        obtain rfl := Option.some.inj hj2
        have e5 : (ren x).f5 = rn x.f5 := by show (if x.f0 = 0 then _ else _) = _; rw [if_pos c0]
        rw [rev_is _ (k + 2100) (by simp; omega) (by simp; omega), Option.bind_some, e5, index_is _ _ (k + 2100) (by simp; omega) (by simp; omega), Option.bind_some, ← List.map_reverse, posOf_rn, set_ren]
        split at h
        · rename_i hp
          rw [if_pos hp]
          obtain ⟨rfl, rfl⟩ := Prod.mk.inj (Option.some.inj h)
          rfl
        · rename_i hp
          rw [if_neg hp]
          obtain ⟨rfl, rfl⟩ := Prod.mk.inj (Option.some.inj h)
          rfl
      · rw [if_neg c0] at h
        rw [if_neg (show ¬ (ren x).f0 = 0 from c0)]
        have e5 : (ren x).f5 = x.f5 := by show (if x.f0 = 0 then _ else _) = _; rw [if_neg c0]
        by_cases c9 : x.f0 = 9 ∨ x.f0 = 10
        · rw [if_pos c9] at h
          rw [if_pos (show (ren x).f0 = 9 ∨ (ren x).f0 = 10 from c9), e5, set_ren, k0]
          split at h
          · rename_i hp
            rw [if_pos hp]
            obtain ⟨rfl, rfl⟩ := Prod.mk.inj (Option.some.inj h)
            rfl
          · rename_i hp
            rw [if_neg hp]
            exact go x _ _ _ _ _ h
        · rw [if_neg c9] at h
          rw [if_neg (show ¬ ((ren x).f0 = 9 ∨ (ren x).f0 = 10) from c9), show (ren x).f4 = x.f4 from rfl, set_ren, k0]
          exact go x _ _ _ _ _ h
    · rw [if_neg h0] at h
      cases h
end Go.Proofs.YtfcjpkkglffnmaaDoor.H

set_option linter.unusedVariables false
set_option linter.unusedSimpArgs false
set_option maxHeartbeats 2000000
namespace Go.Proofs.YtfcjpkkglffnmaaDoor.H
open Go.RowKit Go.Proofs.YtfcjpkkglffnmaaDoorW.PrintWords Go.Proofs.YtfcjpkkglffnmaaDoorW.PrintLast Go.Proofs.YtfcjpkkglffnmaaDoorW.PrintMore
theorem kw_line (l : List UInt8) : kw (l ++ [95]) = false := by
  have hk : ∀ k ∈ kwL, k.getLast? ≠ some 95 := by decide
  cases h : kw (l ++ [95])
  · rfl
  · have := hk _ (List.contains_iff_mem.1 h)
    simp at this
theorem nm_line (l : List UInt8) (h : nm l = true) (hl : l.length + 1 ≤ 16) : nm (l ++ [95]) = true := by
  cases l with
  | nil => simp [nm] at h
  | cons c r =>
    have hk := kw_line (c :: r)
    rw [List.cons_append] at hk ⊢
    simp only [nm, Bool.and_eq_true, decide_eq_true_eq] at h ⊢
    rw [hk]
    simp only [List.length_append, List.length_cons, List.length_nil] at hl ⊢
    refine ⟨by omega, h.2.1, ?_, rfl⟩
    rw [List.all_append, h.2.2.1]
    decide
theorem size_list (s : ByteArray) : s.size = s.data.toList.length := by rw [Array.length_toList]; rfl
theorem nm_rn (s : ByteArray) (h : nm s.data.toList = true) (hs : s.size + 1 ≤ 16) : nm (rn s).data.toList = true := by
  rw [← toList_data, rn_list]
  by_cases e : s.toList = []
  · rw [toList_data] at e
    rw [e] at h
    cases h
  · rw [if_neg e, toList_data]
    exact nm_line _ h (by rw [← size_list]; exact hs)
theorem rn_nil (s : ByteArray) : (rn s).toList = [] ↔ s.toList = [] := by
  rw [rn_list]
  by_cases e : s.toList = []
  · rw [if_pos e, e]
  · rw [if_neg e]
    simp [e]
def shortN (x : S34) : Prop := x.f5.size + 1 ≤ 16 ∧ x.f6.size + 1 ≤ 16 ∧ x.f7.size + 1 ≤ 16 ∧ x.f8.size + 1 ≤ 16
theorem ren_may (x : S34) (h : mayS x true = true) (hs : shortN x) : mayS (ren x) true = true := by
  obtain ⟨s5, s6, s7, s8⟩ := hs
  have hq : 0 ≤ x.f0 ∧ x.f0 ≤ 10 := by
    simp only [mayS, Bool.and_eq_true, decide_eq_true_eq] at h
    exact ⟨h.1, h.2.1⟩
  obtain ⟨f0, f1, f2, f3, f4, f5, f6, f7, f8, f9⟩ := x
  have n5 := fun hh => nm_rn f5 hh s5
  have n6 := fun hh => nm_rn f6 hh s6
  have n7 := fun hh => nm_rn f7 hh s7
  have n8 := fun hh => nm_rn f8 hh s8
  have hem : (⟨#[]⟩ : ByteArray).toList = [] := by rw [toList_data]
  have hf : f0 = 0 ∨ f0 = 1 ∨ f0 = 2 ∨ f0 = 3 ∨ f0 = 4 ∨ f0 = 5 ∨ f0 = 6 ∨ f0 = 7 ∨ f0 = 8 ∨ f0 = 9 ∨ f0 = 10 := by
    have hq : 0 ≤ f0 ∧ f0 ≤ 10 := hq
    omega
  clear hq s5 s6 s7 s8
  rcases hf with rfl | rfl | rfl | rfl | rfl | rfl | rfl | rfl | rfl | rfl | rfl
  all_goals
    simp [mayS, ren, namesOf, noNames, noKids, noNum, bareNode, mostN, kidsN, hem, rn_nil] at h ⊢
    try simp_all
theorem ren_begin (l : List S34) : ∀ (k : Nat) (a : Int), tree_Begin.f k (l.map ren) a = tree_Begin.f k l a :=
  begin_like l (l.map ren) (List.length_map ..) fun i hi => by rw [rd_ren l i hi]; rfl
theorem ren_shaped (l : List S34) (h : shapedS l true = true) (hs : ∀ x ∈ l, shortN x) : shapedS (l.map ren) true = true := by
  obtain ⟨h1, h512, hall, hb⟩ := shaped_parts l true h
  have hbm : beginS (l.map ren) (((l.map ren).length : Int) - 1) = 0 := by
    rw [List.length_map]
    have e : beginS (l.map ren) ((l.length : Int) - 1) = beginS l ((l.length : Int) - 1) := by
      unfold beginS
      rw [List.length_map, ren_begin]
    rw [e, hb]
  have ham : (l.map ren).all (fun x => mayS x true) = true := List.all_eq_true.2 fun y hy => by
    obtain ⟨x, hx, rfl⟩ := List.mem_map.1 hy
    exact ren_may x (hall x hx) (hs x hx)
  unfold shapedS
  rw [ham, hbm, List.length_map]
  simp [h1, h512]
theorem done_ren (l m : List S34) (hlm : m.length = l.length) (hd : Done l m 0 l.length) : m.map ren = m := by
  apply List.ext_getElem?
  intro i
  rw [List.getElem?_map]
  by_cases hi : i < l.length
  · obtain ⟨x, v, _, hm, _⟩ := hd i (Nat.zero_le _) hi
    rw [hm, Option.map_some, ren_blank]
  · rw [List.getElem?_eq_none (by omega)]
    rfl
theorem resolve_ren (os : List S45) (l : List S34) (ht : treeMayS os l = true) (hs : ∀ x ∈ l, shortN x) (k : Nat) (hk : 4300 ≤ k) (r : List S45 × List S34 × Int × Int) (hr : scope_Resolve.f k os l = some r) : scope_Resolve.f k os (l.map ren) = some r := by
  have ht2 := ht
  simp only [treeMayS, Bool.and_eq_true] at ht2
  obtain ⟨h4, hsz⟩ := ops_small os ht2.1
  obtain ⟨h1, h512, hall, hb⟩ := shaped_parts l true ht2.2
  have htm : treeMayS os (l.map ren) = true := by
    unfold treeMayS
    rw [ht2.1, ren_shaped l ht2.2 hs]
    rfl
  obtain ⟨r1, r2, r3, r4, he, hc⟩ := resolve_does os l 2200 (Nat.le_refl _)
  have he2 := at_rounds (scope_Resolve.mono os l) (show 2200 ≤ k by omega) he
  rw [hr] at he2
  obtain rfl := Option.some.inj he2
  rw [res_Q 2200 (by omega), resQ, if_pos ht, if_pos ⟨h4, h1, h512, hsz⟩] at he
  have hm : scope_Resolve.f 4300 os (l.map ren) = some (r1, r2, r3, r4) := by
    rw [res_Q 4300 (by omega), resQ, if_pos htm, if_pos ⟨h4, by rw [List.length_map]; exact h1, by rw [List.length_map]; exact h512, hsz⟩]
    cases htw : twiceGo [] os
    · rw [htw, if_neg (by simp)] at he
      rw [if_neg (by simp), List.length_map]
      obtain ⟨⟨e, ns'⟩, hn, he⟩ := Option.bind_eq_some_iff.mp he
      have h2 := ren_node os 2200 l ((l.length : Int) - 1) [] e ns' hn
      rw [List.map_nil] at h2
      rw [h2, Option.bind_some]
      rcases e with _ | ⟨ea, ec⟩
      · have he : some (os, ns', (0 : Int), (0 : Int)) = some (r1, r2, r3, r4) := he
        obtain ⟨rfl, rfl, rfl, rfl⟩ : os = r1 ∧ ns' = r2 ∧ 0 = r3 ∧ 0 = r4 := by simpa using he
        rcases hc with ⟨_, h, _⟩ | ⟨_, h, _⟩ | ⟨_, _, _, _, _, hlm, hd, _⟩
        · cases h
        · omega
        · show some (os, ns'.map ren, (0 : Int), (0 : Int)) = _
          rw [done_ren l ns' hlm hd]
      · exact he
    · rw [htw, if_pos rfl] at he
      rw [if_pos rfl]
      exact he
  exact at_rounds (scope_Resolve.mono os (l.map ren)) hk hm
end Go.Proofs.YtfcjpkkglffnmaaDoor.H

namespace Go.Proofs.YtfcjpkkglffnmaaDoor.H
open Go.RowKit Go.Proofs.YtfcjpkkglffnmaaDoorW.PrintWords Go.Proofs.YtfcjpkkglffnmaaDoorW.PrintLast Go.Proofs.YtfcjpkkglffnmaaDoorW.PrintMore
attribute [local go_sem] max2_int min2_int max_two min_two max_three min_three max_four min_four
set_option linter.unusedVariables false
set_option linter.unusedSimpArgs false
def trammellaw0_Num.f (a0 : Int) : Option (Int) := some a0
set_option maxHeartbeats 8000000 in
set_option maxRecDepth 100000 in
theorem trammellaw0_Num.calls (a0 : Int) (r : Int) (w : World) (h : trammellaw0_Num.f a0 = some r) :
    Calls Tryd.prog 9 #[.int .i64 a0] w fun e w' => e = .returned (.int .i64 r) ∧ Drawn0 w w' := by
  have H : (some a0) = some r := h
  clear h
  obtain rfl := Option.some.inj H
  go_enter Tryd.func9, Tryd.ntmps9
  go_wp2
  go_ret
  exact ⟨by first | rfl | (simp; done) | (simp [*]; done), by repeat (first | exact Drawn0.refl _ | apply Drawn0.step)⟩
end Go.Proofs.YtfcjpkkglffnmaaDoor.H

namespace Go.Proofs.YtfcjpkkglffnmaaDoor.H
open Go.RowKit Go.Proofs.YtfcjpkkglffnmaaDoorW.PrintWords Go.Proofs.YtfcjpkkglffnmaaDoorW.PrintLast Go.Proofs.YtfcjpkkglffnmaaDoorW.PrintMore
attribute [local go_sem] max2_int min2_int max_two min_two max_three min_three max_four min_four
set_option linter.unusedVariables false
set_option linter.unusedSimpArgs false
def trammellaw6_awake.f (k : Nat)  : Option (Bool) := (some (([(⟨0, 0, 0, 0, 0, (⟨#[120]⟩ : ByteArray), (⟨#[]⟩ : ByteArray), (⟨#[]⟩ : ByteArray), (⟨#[]⟩ : ByteArray), 0⟩ : S34), (⟨9, 0, 0, 0, 0, (⟨#[97]⟩ : ByteArray), (⟨#[]⟩ : ByteArray), (⟨#[]⟩ : ByteArray), (⟨#[]⟩ : ByteArray), 0⟩ : S34), (⟨3, 1, 0, 0, 0, (⟨#[]⟩ : ByteArray), (⟨#[121]⟩ : ByteArray), (⟨#[]⟩ : ByteArray), (⟨#[]⟩ : ByteArray), 0⟩ : S34), (⟨3, 2, 0, 0, 0, (⟨#[]⟩ : ByteArray), (⟨#[120]⟩ : ByteArray), (⟨#[]⟩ : ByteArray), (⟨#[]⟩ : ByteArray), 5⟩ : S34)] : List (S34)) : List (S34))).bind fun y163 => ((scope_Resolve.f k (([(⟨(⟨#[97]⟩ : ByteArray), 0, 0⟩ : S45)] : List (S45))) y163).bind fun bt167 => ((some (([(⟨0, 0, 0, 0, 0, (⟨#[120]⟩ : ByteArray), (⟨#[]⟩ : ByteArray), (⟨#[]⟩ : ByteArray), (⟨#[]⟩ : ByteArray), 7⟩ : S34)] : List (S34)) : List (S34))).bind fun y176 => ((scope_Resolve.f k ([] : List (S45)) y176).bind fun bt180 => ((scope_Resolve.f k ([] : List (S45)) ([] : List (S34))).bind fun bt189 => ((scope_Resolve.f k ([] : List (S45)) y163).bind fun bt198 => ((trammellaw0_SameNodes.f k bt167.2.1 (([(⟨0, 0, 0, 0, 1, (⟨#[]⟩ : ByteArray), (⟨#[]⟩ : ByteArray), (⟨#[]⟩ : ByteArray), (⟨#[]⟩ : ByteArray), 0⟩ : S34), (⟨9, 0, 0, 0, 0, (⟨#[]⟩ : ByteArray), (⟨#[]⟩ : ByteArray), (⟨#[]⟩ : ByteArray), (⟨#[]⟩ : ByteArray), 0⟩ : S34), (⟨3, 1, 0, 0, 0, (⟨#[]⟩ : ByteArray), (⟨#[]⟩ : ByteArray), (⟨#[]⟩ : ByteArray), (⟨#[]⟩ : ByteArray), 0⟩ : S34), (⟨3, 2, 0, 0, 0, (⟨#[]⟩ : ByteArray), (⟨#[]⟩ : ByteArray), (⟨#[]⟩ : ByteArray), (⟨#[]⟩ : ByteArray), 5⟩ : S34)] : List (S34)))).bind fun t210 => (if t210 = true then (if (bt167.1.length : Int) = 1 then (if bt167.2.2.1 = 0 then ((trammellaw0_Num.f bt167.2.2.2).bind fun t211 => (if t211 = 0 then (if bt180.2.2.1 = 7 then ((trammellaw0_Num.f bt180.2.2.2).bind fun t212 => (if t212 = 601 then ((trammellaw0_Num.f bt189.2.2.2).bind fun t213 => (if t213 = 600 then (if bt198.2.2.1 = 0 then ((trammellaw0_Num.f bt198.2.2.2).bind fun t214 => (if t214 = 602 then ((scope_May.f k bt167.1 bt167.2.1).bind fun t215 => (if t215 = true then ((scope_May.f k ([] : List (S45)) y176).bind fun t216 => (some (!t216))) else (some false))) else (some false))) else (some false)) else (some false))) else (some false))) else (some false)) else (some false))) else (some false)) else (some false)) else (some false))))))))
theorem trammellaw6_awake.mono : ∀ k, LeO (trammellaw6_awake.f k ) (trammellaw6_awake.f (k + 1) ) := by
  intro  k
  unfold trammellaw6_awake.f
  repeat' first
      | (with_reducible exact scope_May.mono _ _ _)
      | (with_reducible exact scope_Resolve.mono _ _ _)
      | (with_reducible exact trammellaw0_SameNodes.mono _ _ _)
      | (with_reducible exact LeO.refl _)
      | (with_reducible exact LeO.none _)
      | (with_reducible refine LeO.ite ?_ ?_)
      | (with_reducible refine LeO.bind ?_ (fun _ => ?_))
      | exact scope_May.mono _ _ _
      | exact scope_Resolve.mono _ _ _
      | exact trammellaw0_SameNodes.mono _ _ _
      | exact LeO.none _
      | refine LeO.ite ?_ ?_
      | refine LeO.bind ?_ (fun _ => ?_)
end Go.Proofs.YtfcjpkkglffnmaaDoor.H
