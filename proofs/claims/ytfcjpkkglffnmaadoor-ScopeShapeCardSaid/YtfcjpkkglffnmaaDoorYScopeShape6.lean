/- Several texts in one: contracts of functions of the program, and what they lean on. In part written by a program of this session over the kit's print, in part by hand. -/
import Derived.Test.YtfcjpkkglffnmaaDoorYScopeShape2
import Derived.Test.YtfcjpkkglffnmaaDoorYScopeShape5
import Derived.Test.YtfcjpkkglffnmaaDoorYScopeShape4
namespace Go.Proofs.YtfcjpkkglffnmaaDoor.H
open Go.RowKit Go.Proofs.YtfcjpkkglffnmaaDoorW.PrintWords Go.Proofs.YtfcjpkkglffnmaaDoorW.PrintLast Go.Proofs.YtfcjpkkglffnmaaDoorW.PrintMore
attribute [local go_sem] max2_int min2_int max_two min_two max_three min_three max_four min_four
set_option linter.unusedVariables false
set_option linter.unusedSimpArgs false
attribute [local go_sem high] eqA45
def trammellaw0_SameOps.l0 : Nat → List (S45) → List (S45) → Int → Option (Bool)
  | 0, _, _, _ => none
  | k + 1, x0, x1, x5 => if x5 < (x0.length : Int) then (if 0 ≤ x5 then (if x5 < (x1.length : Int) then (if (!((((rd_T45 x0 x5).f0).toList) == (((rd_T45 x1 x5).f0).toList)) || (!(((rd_T45 x0 x5).f1) == ((rd_T45 x1 x5).f1)) || (!(((rd_T45 x0 x5).f2) == ((rd_T45 x1 x5).f2))))) = true then (some false) else (trammellaw0_SameOps.l0 k x0 x1 (wrap64 (x5 + 1)))) else (none)) else (none)) else (some true)
def trammellaw0_SameOps.f (k : Nat) (l0 : List (S45)) (l1 : List (S45)) : Option (Bool) := if (l0.length : Int) = (l1.length : Int) then (trammellaw0_SameOps.l0 k l0 l1 0) else (some false)
set_option maxHeartbeats 8000000 in
set_option maxRecDepth 100000 in
theorem trammellaw0_SameOps.calls (k : Nat) (A0 : Option Addr) (c0 : Nat) (l0 : List (S45)) (A1 : Option Addr) (c1 : Nat) (l1 : List (S45)) (r : Bool) (w : World) (hr0 : Kd.C k45 w A0 l0.length l0) (hc0 : l0.length ≤ c0) (hr1 : Kd.C k45 w A1 l1.length l1) (hc1 : l1.length ≤ c1) (h : trammellaw0_SameOps.f k l0 l1 = some r) :
    Calls Tryd.prog 11 #[.slice A0 l0.length c0, .slice A1 l1.length c1] w fun e w' => e = .returned (.bool r) ∧ Drawn0 w w' := by
  have hu45 := Tryd.underlying45
  have HR0 := Aside0.mk hr0
  have HC0 := Aside0.mk hc0
  clear hr0 hc0
  have HR1 := Aside0.mk hr1
  have HC1 := Aside0.mk hc1
  clear hr1 hc1
  have H : (if (l0.length : Int) = (l1.length : Int) then (trammellaw0_SameOps.l0 k l0 l1 0) else (some false)) = some r := h
  clear h
  by_cases c3 : (l0.length : Int) = (l1.length : Int)
  · rw [if_pos c3] at H
    have c3b0 : ((l0.length : Int) == (l1.length : Int)) = true := beq_iff_eq.mpr c3
    have c3b1 : ((l0.length : Int) != (l1.length : Int)) = false := bne_eq_false_iff_eq.mpr c3
    have c3b2 : (l0.length == l1.length) = true := by first | simpa using c3 | (simp at c3 ⊢; omega)
    clear c3
    have H' := Aside0.mk H
    clear H
    go_enter Tryd.func11, Tryd.ntmps11
    go_wp2
    repeat (go_quiet (fail); try go_wp2)
    go_loopg [5] k (fun kq v5 w' => ∃ (x5_1 : Int), v5 = .int .i64 x5_1 ∧ Aside0 (trammellaw0_SameOps.l0 kq l0 l1 x5_1 = some r) ∧ Aside0 (kq ≤ k) ∧ Drawn0 w w')
    case atStart => exact ⟨(0), (by first | rfl | (simp; done) | (simp [*]; done)), H', ⟨Nat.le_refl _⟩, by repeat (first | exact Drawn0.refl _ | apply Drawn0.step)⟩
    case round =>
      clear H'
      try clear c1
      try clear p2
      try clear c3
      try clear c3b0
      try clear c3b1
      try clear c3b2
      obtain ⟨x5_1, rfl, HA, HK1, ⟨m1, rfl⟩⟩ := hrel
      cases gk with
      | zero => exact absurd HA.out (by simp [trammellaw0_SameOps.l0])
      | succ k1 =>
        have H := HA.out
        clear HA
        simp only [trammellaw0_SameOps.l0] at H
        by_cases c4 : x5_1 < (l0.length : Int)
        · rw [if_pos c4] at H
          have c4b0 : decide (x5_1 < (l0.length : Int)) = true := decide_eq_true c4
          clear c4
          by_cases c5 : 0 ≤ x5_1
          · rw [if_pos c5] at H
            have c5b0 : decide (0 ≤ x5_1) = true := decide_eq_true c5
            clear c5
            by_cases c6 : x5_1 < (l1.length : Int)
            · rw [if_pos c6] at H
              have c6b0 : decide (x5_1 < (l1.length : Int)) = true := decide_eq_true c6
              clear c6
              by_cases c7 : (!((((rd_T45 l0 x5_1).f0).toList) == (((rd_T45 l1 x5_1).f0).toList)) || (!(((rd_T45 l0 x5_1).f1) == ((rd_T45 l1 x5_1).f1)) || (!(((rd_T45 l0 x5_1).f2) == ((rd_T45 l1 x5_1).f2))))) = true
              · rw [if_pos c7] at H
                have c7b0 : (!((((rd_T45 l0 x5_1).f0).toList) == (((rd_T45 l1 x5_1).f0).toList)) || (!(((rd_T45 l0 x5_1).f1) == ((rd_T45 l1 x5_1).f1)) || (!(((rd_T45 l0 x5_1).f2) == ((rd_T45 l1 x5_1).f2))))) = true := c7
                clear c7
                obtain rfl := Option.some.inj H
                have p135 : 0 ≤ (x5_1 : Int) := of_decide_eq_true (by first | (with_reducible assumption) | assumption)
                have q135 : x5_1 < (l0.length : Int) := of_decide_eq_true (by first | (with_reducible assumption) | assumption)
                obtain ⟨ad135, e135, hx135_0, hx135_1, hx135_2⟩ := at_T45 HR0.out x5_1 p135 q135
                cases e135
                replace p135 := eq_true p135
                replace q135 := eq_true q135
                have p136 : 0 ≤ (x5_1 : Int) := of_decide_eq_true (by first | (with_reducible assumption) | assumption)
                have q136 : x5_1 < (l1.length : Int) := of_decide_eq_true (by first | (with_reducible assumption) | assumption)
                obtain ⟨ad136, e136, hx136_0, hx136_1, hx136_2⟩ := at_T45 HR1.out x5_1 p136 q136
                cases e136
                replace p136 := eq_true p136
                replace q136 := eq_true q136
                go_wp2
                repeat (go_quiet (fail); try go_wp2)
                go_ret
                exact ⟨by first | rfl | (simp; done) | (simp [*]; done), by repeat (first | exact Drawn0.refl _ | apply Drawn0.step)⟩
              · rw [if_neg c7] at H
                have c7b0 : (!((((rd_T45 l0 x5_1).f0).toList) == (((rd_T45 l1 x5_1).f0).toList)) || (!(((rd_T45 l0 x5_1).f1) == ((rd_T45 l1 x5_1).f1)) || (!(((rd_T45 l0 x5_1).f2) == ((rd_T45 l1 x5_1).f2))))) = false := by simpa using c7
                clear c7
                have H' := Aside0.mk H
                clear H
                have p135 : 0 ≤ (x5_1 : Int) := of_decide_eq_true (by first | (with_reducible assumption) | assumption)
                have q135 : x5_1 < (l0.length : Int) := of_decide_eq_true (by first | (with_reducible assumption) | assumption)
                obtain ⟨ad135, e135, hx135_0, hx135_1, hx135_2⟩ := at_T45 HR0.out x5_1 p135 q135
                cases e135
                replace p135 := eq_true p135
                replace q135 := eq_true q135
                have p136 : 0 ≤ (x5_1 : Int) := of_decide_eq_true (by first | (with_reducible assumption) | assumption)
                have q136 : x5_1 < (l1.length : Int) := of_decide_eq_true (by first | (with_reducible assumption) | assumption)
                obtain ⟨ad136, e136, hx136_0, hx136_1, hx136_2⟩ := at_T45 HR1.out x5_1 p136 q136
                cases e136
                replace p136 := eq_true p136
                replace q136 := eq_true q136
                go_wp2
                repeat (go_quiet (fail); try go_wp2)
                go_roundg k1
                case measure => have := HK1.out; omega
                case rel => exact ⟨(wrap64 (x5_1 + 1)), (by first | rfl | (simp; done) | (simp [*]; done)), H', ⟨by have := HK1.out; omega⟩, by repeat (first | exact Drawn0.refl _ | apply Drawn0.step)⟩
            · rw [if_neg c6] at H
              exact absurd H (by simp)
          · rw [if_neg c5] at H
            exact absurd H (by simp)
        · rw [if_neg c4] at H
          have c4b0 : decide (x5_1 < (l0.length : Int)) = false := decide_eq_false c4
          clear c4
          obtain rfl := Option.some.inj H
          go_wp2
          repeat (go_quiet (fail); try go_wp2)
          go_ret
          exact ⟨by first | rfl | (simp; done) | (simp [*]; done), by repeat (first | exact Drawn0.refl _ | apply Drawn0.step)⟩
  · rw [if_neg c3] at H
    have c3b0 : ((l0.length : Int) == (l1.length : Int)) = false := beq_eq_false_iff_ne.mpr c3
    have c3b1 : ((l0.length : Int) != (l1.length : Int)) = true := bne_iff_ne.mpr c3
    have c3b2 : (l0.length == l1.length) = false := by first | simpa using c3 | (simp at c3 ⊢; omega)
    obtain rfl := Option.some.inj H
    go_enter Tryd.func11, Tryd.ntmps11
    go_wp2
    repeat (go_quiet (fail); try go_wp2)
    go_ret
    exact ⟨by first | rfl | (simp; done) | (simp [*]; done), by repeat (first | exact Drawn0.refl _ | apply Drawn0.step)⟩
end Go.Proofs.YtfcjpkkglffnmaaDoor.H

set_option linter.unusedVariables false
set_option linter.unusedSimpArgs false
namespace Go.Proofs.YtfcjpkkglffnmaaDoor.H
open Go.RowKit Go.Proofs.YtfcjpkkglffnmaaDoorW.PrintWords Go.Proofs.YtfcjpkkglffnmaaDoorW.PrintLast Go.Proofs.YtfcjpkkglffnmaaDoorW.PrintMore
theorem sameO_loop (l : List S45) (hl : l.length ≤ 1000000000000000) : ∀ (d i k : Nat), l.length - i = d → i ≤ l.length → d < k → trammellaw0_SameOps.l0 k l l (i : Int) = some true := by
  intro d
  induction d with
  | zero =>
    intro i k hd hi hk
    obtain ⟨k, rfl⟩ : ∃ n, k = n + 1 := ⟨k - 1, by omega⟩
    simp only [trammellaw0_SameOps.l0]
    rw [if_neg (by omega)]
  | succ d ih =>
    intro i k hd hi hk
    obtain ⟨k, rfl⟩ : ∃ n, k = n + 1 := ⟨k - 1, by omega⟩
    simp only [trammellaw0_SameOps.l0]
    rw [if_pos (by omega), if_pos (by omega), if_pos (by omega)]
    simp only [beq_self_eq_true, Bool.not_true, Bool.or_false, Bool.false_eq_true, if_false]
    rw [wrapS (by omega) (by omega), show ((i : Int) + 1) = ((i + 1 : Nat) : Int) from by omega]
    exact ih (i + 1) k (by omega) (by omega) (by omega)
theorem sameO_self (l : List S45) (k : Nat) (hk : l.length < k) (hl : l.length ≤ 1000000000000000) : trammellaw0_SameOps.f k l l = some true := by
  unfold trammellaw0_SameOps.f
  rw [if_pos rfl]
  exact sameO_loop l hl l.length 0 k rfl (Nat.zero_le _) hk
theorem nm_size (s : ByteArray) (h : nm s.data.toList = true) : s.size ≤ 16 := by
  have e : s.size = s.data.toList.length := by rw [Array.length_toList]; rfl
  rw [e]
  unfold nm at h
  split at h
  · cases h
  · rename_i c r hcr
    simp only [Bool.and_eq_true, decide_eq_true_eq] at h
    rw [hcr, List.length_cons]
    omega
theorem ops_small (os : List S45) (h : opsMayS os = true) : os.length ≤ 4 ∧ (os.all fun o => decide (o.f0.size ≤ 1000)) = true := by
  simp only [opsMayS, Bool.and_eq_true, decide_eq_true_eq, List.all_eq_true] at h
  refine ⟨h.1, List.all_eq_true.2 fun o ho => ?_⟩
  have h2 := h.2 o ho
  simp only [opMayS, Bool.and_eq_true] at h2
  have := nm_size o.f0 h2.1
  exact decide_eq_true (by omega)
theorem shaped_parts (l : List S34) (named : Bool) (h : shapedS l named = true) : 1 ≤ l.length ∧ l.length ≤ 512 ∧ (∀ x ∈ l, mayS x named = true) ∧ beginS l ((l.length : Int) - 1) = 0 := by
  simp only [shapedS, Bool.and_eq_true, decide_eq_true_eq, List.all_eq_true, beq_iff_eq] at h
  exact ⟨h.1, h.2.1, h.2.2.1, h.2.2.2⟩
theorem resolve_does (os : List S45) (l : List S34) (k : Nat) (hk : 2200 ≤ k) : ∃ r1 r2 r3 r4, scope_Resolve.f k os l = some (r1, r2, r3, r4) ∧
    ((treeMayS os l = false ∧ r4 = 600 ∧ r1 = [] ∧ r2 = [] ∧ r3 = 0) ∨ (treeMayS os l = true ∧ (r4 = 601 ∨ r4 = 602) ∧ r1 = [] ∧ r2 = [] ∧ 0 ≤ r3) ∨
      (treeMayS os l = true ∧ twiceGo [] os = false ∧ r4 = 0 ∧ r1 = os ∧ r3 = 0 ∧ r2.length = l.length ∧ Done l r2 0 l.length ∧ ∀ kk, l.length ≤ kk → within.f kk (os.length : Int) r2 ((l.length : Int) - 1) 0 = some true)) := by
  rw [res_Q k (by omega), resQ]
  cases ht : treeMayS os l
  · exact ⟨_, _, _, _, rfl, .inl ⟨rfl, rfl, rfl, rfl, rfl⟩⟩
  · have ht2 := ht
    simp only [treeMayS, Bool.and_eq_true] at ht2
    obtain ⟨h4, hsz⟩ := ops_small os ht2.1
    obtain ⟨h1, h512, hall, hb⟩ := shaped_parts l true ht2.2
    rw [if_pos rfl, if_pos ⟨h4, h1, h512, hsz⟩]
    cases htw : twiceGo [] os
    · rw [if_neg (by simp)]
      have el : ((l.length : Int) - 1) = ((l.length - 1 : Nat) : Int) := by omega
      rw [el] at hb ⊢
      obtain ⟨r, ns', e, ⟨d1, d2, d3, d4⟩, w⟩ := node_does l os hall h512 h4 (l.length - 1) (l.length - 1) k l [] 0 rfl (by omega) hb rfl (fun _ _ _ => rfl) (by simp; omega) (by omega)
      rw [e, Option.bind_some]
      rcases r with _ | ⟨ea, ec⟩
      · have d := d3 rfl
        rw [show l.length - 1 + 1 = l.length by omega] at d
        refine ⟨_, _, _, _, rfl, .inr (.inr ⟨rfl, rfl, rfl, rfl, rfl, d1, d, fun kk hkk => ?_⟩)⟩
        exact w rfl kk (by omega)
      · obtain ⟨he, hc⟩ := d4 ea ec rfl
        have hc0 : ec ≠ 0 := by omega
        show ∃ r1 r2 r3 r4, (if ec = 0 then none else some ([], [], ea, ec)) = some (r1, r2, r3, r4) ∧ _
        rw [if_neg hc0]
        exact ⟨_, _, _, _, rfl, .inr (.inl ⟨rfl, hc, rfl, rfl, he⟩)⟩
    · rw [if_pos rfl]
      exact ⟨_, _, _, _, rfl, .inr (.inl ⟨rfl, .inr rfl, rfl, rfl, Int.le_refl _⟩)⟩
theorem begin_like (l m : List S34) (hlm : m.length = l.length) (h : ∀ i : Nat, i < l.length → kidsOf (rd_T34 m (i : Int)) = kidsOf (rd_T34 l (i : Int))) : ∀ (k : Nat) (a : Int), tree_Begin.f k m a = tree_Begin.f k l a
  | 0, a => rfl
  | k + 1, a => by
    rw [tree_Begin.f, tree_Begin.f, hlm]
    by_cases h0 : 0 ≤ a
    · rw [if_pos h0, if_pos h0]
      by_cases h1 : a < (l.length : Int)
      · obtain ⟨n, rfl⟩ := Int.eq_ofNat_of_zero_le h0
        rw [if_pos h1, if_pos h1, h n (by omega), show tree_Begin.f k m = tree_Begin.f k l from funext (begin_like l m hlm h k)]
      · rw [if_neg h1, if_neg h1]
    · rw [if_neg h0, if_neg h0]
theorem blank_may (x : S34) (v : Int) (h : mayS x true = true) (hv : okV x v) : mayS (blankN x v) false = true := by
  obtain ⟨hv0, hv1⟩ := hv
  simp only [mayS, Bool.and_eq_true, Bool.or_eq_true, decide_eq_true_eq, if_true] at h
  obtain ⟨h1, h2, h3, h4, h5, _, h7⟩ := h
  have hmost : mostN x.f0 < 0 ∨ 0 ≤ mostN x.f0 := by omega
  have e0 : (blankN x v).f0 = x.f0 := rfl
  have hem : (⟨#[]⟩ : ByteArray).toList = [] := by rw [toList_data]
  by_cases hn : x.f0 = 0 ∨ x.f0 = 9 ∨ x.f0 = 10
  · have hm : mostN x.f0 < 0 := by
      unfold mostN
      rcases hn with h | h | h <;> simp [h]
    rw [if_neg (by simp; omega)] at h7
    simp only [mayS, Bool.and_eq_true, Bool.or_eq_true, decide_eq_true_eq, e0]
    refine ⟨h1, h2, h3, h4, .inl hm, .inl (by simp), ?_⟩
    simp only [Bool.false_eq_true, if_false]
    rw [if_pos (.inr ⟨trivial, hn⟩)]
    simp only [bareNode, Bool.and_eq_true, beq_iff_eq] at h7 ⊢
    clear hv1 h5 hm hmost e0 h1 h2 h3 h4
    obtain ⟨f0, f1, f2, f3, f4, f5, f6, f7, f8, f9⟩ := x
    have hn : f0 = 0 ∨ f0 = 9 ∨ f0 = 10 := hn
    rcases hn with rfl | rfl | rfl
    all_goals
      simp [noKids, noNames, noNum, blankN, kidsN, hem] at h7 ⊢
      try simp [h7]
  · have hv2 := hv1 hn
    subst hv2
    simp only [mayS, Bool.and_eq_true, Bool.or_eq_true, decide_eq_true_eq, e0]
    refine ⟨h1, h2, h3, h4, h5, .inl (by simp), ?_⟩
    have hcond : (0 ≤ mostN x.f0 ∨ (false = false ∧ (x.f0 = 0 ∨ x.f0 = 9 ∨ x.f0 = 10))) ↔ 0 ≤ mostN x.f0 := by simp [hn]
    have hcond2 : (0 ≤ mostN x.f0 ∨ (true = false ∧ (x.f0 = 0 ∨ x.f0 = 9 ∨ x.f0 = 10))) ↔ 0 ≤ mostN x.f0 := by simp
    have hq : x.f0 = 1 ∨ x.f0 = 2 ∨ x.f0 = 3 ∨ x.f0 = 4 ∨ x.f0 = 5 ∨ x.f0 = 6 ∨ x.f0 = 7 ∨ x.f0 = 8 := by omega
    clear hcond hcond2 hv1 h5 hmost e0 h1 h2 h3 h4 hn hv0
    obtain ⟨f0, f1, f2, f3, f4, f5, f6, f7, f8, f9⟩ := x
    have hq : f0 = 1 ∨ f0 = 2 ∨ f0 = 3 ∨ f0 = 4 ∨ f0 = 5 ∨ f0 = 6 ∨ f0 = 7 ∨ f0 = 8 := hq
    rcases hq with rfl | rfl | rfl | rfl | rfl | rfl | rfl | rfl
    all_goals
      simp [bareNode, noKids, noNames, noNum, blankN, kidsN, mostN, hem] at h7 ⊢
      try simp [h7]
theorem done_shaped (l m : List S34) (h : shapedS l true = true) (hlm : m.length = l.length) (hd : Done l m 0 l.length) : shapedS m false = true := by
  obtain ⟨h1, h512, hall, hb⟩ := shaped_parts l true h
  have hget : ∀ i : Nat, i < l.length → ∃ x v, l[i]? = some x ∧ m[i]? = some (blankN x v) ∧ okV x v := fun i hi => hd i (Nat.zero_le _) hi
  have hk : ∀ i : Nat, i < l.length → kidsOf (rd_T34 m (i : Int)) = kidsOf (rd_T34 l (i : Int)) := fun i hi => by
    obtain ⟨x, v, hx, hm, _⟩ := hget i hi
    rw [rd_some l i x hx, rd_some m i _ hm]
    rfl
  have hbm : beginS m ((l.length : Int) - 1) = 0 := by
    have e : beginS m ((l.length : Int) - 1) = beginS l ((l.length : Int) - 1) := by
      unfold beginS
      rw [hlm, begin_like l m hlm hk]
    rw [e, hb]
  have ham : m.all (fun x => mayS x false) = true := List.all_eq_true.2 fun y hy => by
    obtain ⟨i, hi⟩ := List.getElem?_of_mem hy
    have hil : i < l.length := by rw [← hlm]; exact (List.getElem?_eq_some_iff.1 hi).1
    obtain ⟨x, v, hx, hm, hv⟩ := hget i hil
    rw [hi] at hm
    obtain rfl := Option.some.inj hm
    exact blank_may x v (hall x (List.mem_of_getElem? hx)) hv
  unfold shapedS
  rw [ham, hlm, hbm]
  simp [h1, h512]
theorem resolved_may (os : List S45) (l m : List S34) (k : Nat) (hk : 2200 ≤ k) (ht : treeMayS os l = true) (htw : twiceGo [] os = false) (hlm : m.length = l.length) (hd : Done l m 0 l.length) (hw : ∀ kk, l.length ≤ kk → within.f kk (os.length : Int) m ((l.length : Int) - 1) 0 = some true) : scope_May.f k os m = some true := by
  have ht2 := ht
  simp only [treeMayS, Bool.and_eq_true] at ht2
  obtain ⟨h4, hsz⟩ := ops_small os ht2.1
  obtain ⟨h1, h512, hall, hb⟩ := shaped_parts l true ht2.2
  rw [may_Q k (by omega), mayQ, if_pos ht2.1, if_pos ⟨h4, hsz⟩, htw, if_neg (by simp), done_shaped l m ht2.2 hlm hd, if_pos rfl, if_pos (by omega), hlm]
  exact hw k (by omega)
end Go.Proofs.YtfcjpkkglffnmaaDoor.H

namespace Go.Proofs.YtfcjpkkglffnmaaDoor.H
open Go.RowKit Go.Proofs.YtfcjpkkglffnmaaDoorW.PrintWords Go.Proofs.YtfcjpkkglffnmaaDoorW.PrintLast Go.Proofs.YtfcjpkkglffnmaaDoorW.PrintMore
attribute [local go_sem] max2_int min2_int max_two min_two max_three min_three max_four min_four
set_option linter.unusedVariables false
set_option linter.unusedSimpArgs false
def trammellaw0_Num.f (a0 : Int) : Option (Int) := some a0
set_option maxHeartbeats 8000000 in
set_option maxRecDepth 100000 in
theorem trammellaw0_Num.calls (a0 : Int) (r : Int) (w : World) (h : trammellaw0_Num.f a0 = some r) :
    Calls Tryd.prog 9 #[.int .i64 a0] w fun e w' => e = .returned (.int .i64 r) ∧ Drawn0 w w' := by
  have H : (some a0) = some r := h
  clear h
  obtain rfl := Option.some.inj H
  go_enter Tryd.func9, Tryd.ntmps9
  go_wp2
  go_ret
  exact ⟨by first | rfl | (simp; done) | (simp [*]; done), by repeat (first | exact Drawn0.refl _ | apply Drawn0.step)⟩
end Go.Proofs.YtfcjpkkglffnmaaDoor.H

namespace Go.Proofs.YtfcjpkkglffnmaaDoor.H
open Go.RowKit Go.Proofs.YtfcjpkkglffnmaaDoorW.PrintWords Go.Proofs.YtfcjpkkglffnmaaDoorW.PrintLast Go.Proofs.YtfcjpkkglffnmaaDoorW.PrintMore
attribute [local go_sem] max2_int min2_int max_two min_two max_three min_three max_four min_four
set_option linter.unusedVariables false
set_option linter.unusedSimpArgs false
def trammellaw6_awake.f (k : Nat)  : Option (Bool) := (some (([(⟨0, 0, 0, 0, 0, (⟨#[120]⟩ : ByteArray), (⟨#[]⟩ : ByteArray), (⟨#[]⟩ : ByteArray), (⟨#[]⟩ : ByteArray), 0⟩ : S34), (⟨9, 0, 0, 0, 0, (⟨#[97]⟩ : ByteArray), (⟨#[]⟩ : ByteArray), (⟨#[]⟩ : ByteArray), (⟨#[]⟩ : ByteArray), 0⟩ : S34), (⟨3, 1, 0, 0, 0, (⟨#[]⟩ : ByteArray), (⟨#[121]⟩ : ByteArray), (⟨#[]⟩ : ByteArray), (⟨#[]⟩ : ByteArray), 0⟩ : S34), (⟨3, 2, 0, 0, 0, (⟨#[]⟩ : ByteArray), (⟨#[120]⟩ : ByteArray), (⟨#[]⟩ : ByteArray), (⟨#[]⟩ : ByteArray), 5⟩ : S34)] : List (S34)) : List (S34))).bind fun y163 => ((scope_Resolve.f k (([(⟨(⟨#[97]⟩ : ByteArray), 0, 0⟩ : S45)] : List (S45))) y163).bind fun bt167 => ((some (([(⟨0, 0, 0, 0, 0, (⟨#[120]⟩ : ByteArray), (⟨#[]⟩ : ByteArray), (⟨#[]⟩ : ByteArray), (⟨#[]⟩ : ByteArray), 7⟩ : S34)] : List (S34)) : List (S34))).bind fun y176 => ((scope_Resolve.f k ([] : List (S45)) y176).bind fun bt180 => ((scope_Resolve.f k ([] : List (S45)) ([] : List (S34))).bind fun bt189 => ((scope_Resolve.f k ([] : List (S45)) y163).bind fun bt198 => ((trammellaw0_SameNodes.f k bt167.2.1 (([(⟨0, 0, 0, 0, 1, (⟨#[]⟩ : ByteArray), (⟨#[]⟩ : ByteArray), (⟨#[]⟩ : ByteArray), (⟨#[]⟩ : ByteArray), 0⟩ : S34), (⟨9, 0, 0, 0, 0, (⟨#[]⟩ : ByteArray), (⟨#[]⟩ : ByteArray), (⟨#[]⟩ : ByteArray), (⟨#[]⟩ : ByteArray), 0⟩ : S34), (⟨3, 1, 0, 0, 0, (⟨#[]⟩ : ByteArray), (⟨#[]⟩ : ByteArray), (⟨#[]⟩ : ByteArray), (⟨#[]⟩ : ByteArray), 0⟩ : S34), (⟨3, 2, 0, 0, 0, (⟨#[]⟩ : ByteArray), (⟨#[]⟩ : ByteArray), (⟨#[]⟩ : ByteArray), (⟨#[]⟩ : ByteArray), 5⟩ : S34)] : List (S34)))).bind fun t210 => (if t210 = true then (if (bt167.1.length : Int) = 1 then (if bt167.2.2.1 = 0 then ((trammellaw0_Num.f bt167.2.2.2).bind fun t211 => (if t211 = 0 then (if bt180.2.2.1 = 7 then ((trammellaw0_Num.f bt180.2.2.2).bind fun t212 => (if t212 = 601 then ((trammellaw0_Num.f bt189.2.2.2).bind fun t213 => (if t213 = 600 then (if bt198.2.2.1 = 0 then ((trammellaw0_Num.f bt198.2.2.2).bind fun t214 => (if t214 = 602 then ((scope_May.f k bt167.1 bt167.2.1).bind fun t215 => (if t215 = true then ((scope_May.f k ([] : List (S45)) y176).bind fun t216 => (some (!t216))) else (some false))) else (some false))) else (some false)) else (some false))) else (some false))) else (some false)) else (some false))) else (some false)) else (some false)) else (some false))))))))
theorem trammellaw6_awake.mono : ∀ k, LeO (trammellaw6_awake.f k ) (trammellaw6_awake.f (k + 1) ) := by
  intro  k
  unfold trammellaw6_awake.f
  repeat' first
      | (with_reducible exact scope_May.mono _ _ _)
      | (with_reducible exact scope_Resolve.mono _ _ _)
      | (with_reducible exact trammellaw0_SameNodes.mono _ _ _)
      | (with_reducible exact LeO.refl _)
      | (with_reducible exact LeO.none _)
      | (with_reducible refine LeO.ite ?_ ?_)
      | (with_reducible refine LeO.bind ?_ (fun _ => ?_))
      | exact scope_May.mono _ _ _
      | exact scope_Resolve.mono _ _ _
      | exact trammellaw0_SameNodes.mono _ _ _
      | exact LeO.none _
      | refine LeO.ite ?_ ?_
      | refine LeO.bind ?_ (fun _ => ?_)
end Go.Proofs.YtfcjpkkglffnmaaDoor.H
