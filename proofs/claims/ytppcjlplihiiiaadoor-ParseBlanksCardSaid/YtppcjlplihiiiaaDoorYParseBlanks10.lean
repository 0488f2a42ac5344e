/- Several texts in one: contracts of functions of the program, and what they lean on. In part written by a program of this session over the kit's print, in part by hand. -/
import Derived.Test.YtppcjlplihiiiaaDoorYParseBlanks9
import Derived.Test.YtppcjlplihiiiaaDoorYParseBlanks0
import Derived.Test.YtppcjlplihiiiaaDoorYParseBlanks8
namespace Go.Proofs.YtppcjlplihiiiaaDoor.Ev
open Go Go.Ev
set_option linter.unusedVariables false
set_option linter.unusedSimpArgs false
theorem con_0_0 : ∃ m', funV Tryd.prog xb ext1 100000 62 [.str 6 35442611010848, .str 3 2108192] (memOf vars) = some (.bool false, m') := told_of (m0 := memOf vars) (by kernel_rfl)
theorem con_0_1 : ∃ m', funV Tryd.prog xb ext1 100000 62 [.str 6 35442611010848, .str 3 2108704] (memOf vars) = some (.bool false, m') := told_of (m0 := memOf vars) (by kernel_rfl)
theorem con_0_2 : ∃ m', funV Tryd.prog xb ext1 100000 62 [.str 6 35442611010848, .str 3 2107936] (memOf vars) = some (.bool false, m') := told_of (m0 := memOf vars) (by kernel_rfl)
theorem con_0_3 : ∃ m', funV Tryd.prog xb ext1 100000 62 [.str 6 35442611010848, .str 3 2109216] (memOf vars) = some (.bool false, m') := told_of (m0 := memOf vars) (by kernel_rfl)
theorem con_0_4 : ∃ m', funV Tryd.prog xb ext1 100000 62 [.str 6 35442611010848, .str 4 540884256] (memOf vars) = some (.bool true, m') := told_of (m0 := memOf vars) (by kernel_rfl)
theorem con_0_5 : ∃ m', funV Tryd.prog xb ext1 100000 62 [.str 6 35442611010848, .str 3 2112544] (memOf vars) = some (.bool true, m') := told_of (m0 := memOf vars) (by kernel_rfl)
theorem con_1_0 : ∃ m', funV Tryd.prog xb ext1 100000 62 [.str 5 138196036384, .str 3 2108192] (memOf vars) = some (.bool true, m') := told_of (m0 := memOf vars) (by kernel_rfl)
theorem con_1_1 : ∃ m', funV Tryd.prog xb ext1 100000 62 [.str 5 138196036384, .str 3 2108704] (memOf vars) = some (.bool true, m') := told_of (m0 := memOf vars) (by kernel_rfl)
theorem con_1_2 : ∃ m', funV Tryd.prog xb ext1 100000 62 [.str 5 138196036384, .str 3 2107936] (memOf vars) = some (.bool false, m') := told_of (m0 := memOf vars) (by kernel_rfl)
theorem con_1_3 : ∃ m', funV Tryd.prog xb ext1 100000 62 [.str 5 138196036384, .str 3 2109216] (memOf vars) = some (.bool false, m') := told_of (m0 := memOf vars) (by kernel_rfl)
theorem con_1_4 : ∃ m', funV Tryd.prog xb ext1 100000 62 [.str 5 138196036384, .str 4 540884256] (memOf vars) = some (.bool false, m') := told_of (m0 := memOf vars) (by kernel_rfl)
theorem con_1_5 : ∃ m', funV Tryd.prog xb ext1 100000 62 [.str 5 138196036384, .str 3 2112544] (memOf vars) = some (.bool false, m') := told_of (m0 := memOf vars) (by kernel_rfl)
theorem con_2_0 : ∃ m', funV Tryd.prog xb ext1 100000 62 [.str 5 138229590560, .str 3 2108192] (memOf vars) = some (.bool false, m') := told_of (m0 := memOf vars) (by kernel_rfl)
theorem con_2_1 : ∃ m', funV Tryd.prog xb ext1 100000 62 [.str 5 138229590560, .str 3 2108704] (memOf vars) = some (.bool false, m') := told_of (m0 := memOf vars) (by kernel_rfl)
theorem con_2_2 : ∃ m', funV Tryd.prog xb ext1 100000 62 [.str 5 138229590560, .str 3 2107936] (memOf vars) = some (.bool true, m') := told_of (m0 := memOf vars) (by kernel_rfl)
theorem con_2_3 : ∃ m', funV Tryd.prog xb ext1 100000 62 [.str 5 138229590560, .str 3 2109216] (memOf vars) = some (.bool true, m') := told_of (m0 := memOf vars) (by kernel_rfl)
theorem con_2_4 : ∃ m', funV Tryd.prog xb ext1 100000 62 [.str 5 138229590560, .str 4 540884256] (memOf vars) = some (.bool false, m') := told_of (m0 := memOf vars) (by kernel_rfl)
theorem con_2_5 : ∃ m', funV Tryd.prog xb ext1 100000 62 [.str 5 138229590560, .str 3 2112544] (memOf vars) = some (.bool false, m') := told_of (m0 := memOf vars) (by kernel_rfl)
theorem told_nil : ∃ m', funV Tryd.prog xb ext1 100000 16 [.nili] (memOf vars) = some (.tup [.int .i64 0, .int .i64 0], m') := told_of (m0 := memOf vars) (by kernel_rfl)
theorem told_err (a c : Int) : ∃ m', funV Tryd.prog xb ext1 100000 16 [.iface 65 (.ptr 0 0)] (viewM vars [(67, [.int .i64 a, .iface 28 (.int .i64 c)])]) = some (.tup [.int .i64 a, .int .i64 c], m') := told_of (m0 := memOf vars) (by kernel_rfl)
theorem told_want (a : Int) (l s : Nat) : ∃ m', funV Tryd.prog xb ext1 100000 16 [.iface 65 (.ptr 0 0)] (viewM vars [(67, [.int .i64 a, .iface 52 (.ptr 1 0)]), (54, [.str l s])]) = some (.tup [.int .i64 a, .int .i64 403], m') := told_of (m0 := memOf vars) (by kernel_rfl)
theorem awake_par : yes (funC Tryd.prog xb ext1 100000 4 [] (memOf vars) fun v m => some (v, m)) = true := by kernel_rfl
def told3 : List (Nat × List V × V) := [(62, [.str 6 35442611010848, .str 3 2108192], .bool false), (62, [.str 6 35442611010848, .str 3 2108704], .bool false), (62, [.str 6 35442611010848, .str 3 2107936], .bool false), (62, [.str 6 35442611010848, .str 3 2109216], .bool false), (62, [.str 6 35442611010848, .str 4 540884256], .bool true), (62, [.str 6 35442611010848, .str 3 2112544], .bool true), (62, [.str 5 138196036384, .str 3 2108192], .bool true), (62, [.str 5 138196036384, .str 3 2108704], .bool true), (62, [.str 5 138196036384, .str 3 2107936], .bool false), (62, [.str 5 138196036384, .str 3 2109216], .bool false), (62, [.str 5 138196036384, .str 4 540884256], .bool false), (62, [.str 5 138196036384, .str 3 2112544], .bool false), (62, [.str 5 138229590560, .str 3 2108192], .bool false), (62, [.str 5 138229590560, .str 3 2108704], .bool false), (62, [.str 5 138229590560, .str 3 2107936], .bool true), (62, [.str 5 138229590560, .str 3 2109216], .bool true), (62, [.str 5 138229590560, .str 4 540884256], .bool false), (62, [.str 5 138229590560, .str 3 2112544], .bool false), (16, [.nili], .tup [.int .i64 0, .int .i64 0]), (4, [], .bool true)]
noncomputable def extT : CallF := extTold vars 16 65 28 52
noncomputable def extP : CallF := extTwo extT (extTwo ext1 (extL vars told3))
theorem extPOk : CFok Tryd.prog extP := extTwo_ok (extTold_ok (ok _ ext1Ok 100000) told_err told_want) <| extTwo_ok ext1Ok <| extL_ok (ok _ ext1Ok 100000) fun x hx => by
  simp only [told3, List.mem_cons, List.not_mem_nil, or_false] at hx
  rcases hx with rfl | rfl | rfl | rfl | rfl | rfl | rfl | rfl | rfl | rfl | rfl | rfl | rfl | rfl | rfl | rfl | rfl | rfl | rfl | rfl
  · exact ⟨rfl, rfl, con_0_0⟩
  · exact ⟨rfl, rfl, con_0_1⟩
  · exact ⟨rfl, rfl, con_0_2⟩
  · exact ⟨rfl, rfl, con_0_3⟩
  · exact ⟨rfl, rfl, con_0_4⟩
  · exact ⟨rfl, rfl, con_0_5⟩
  · exact ⟨rfl, rfl, con_1_0⟩
  · exact ⟨rfl, rfl, con_1_1⟩
  · exact ⟨rfl, rfl, con_1_2⟩
  · exact ⟨rfl, rfl, con_1_3⟩
  · exact ⟨rfl, rfl, con_1_4⟩
  · exact ⟨rfl, rfl, con_1_5⟩
  · exact ⟨rfl, rfl, con_2_0⟩
  · exact ⟨rfl, rfl, con_2_1⟩
  · exact ⟨rfl, rfl, con_2_2⟩
  · exact ⟨rfl, rfl, con_2_3⟩
  · exact ⟨rfl, rfl, con_2_4⟩
  · exact ⟨rfl, rfl, con_2_5⟩
  · exact ⟨rfl, rfl, told_nil⟩
  · exact ⟨rfl, rfl, yes_spec (yes_of awake_par)⟩
theorem goodOk {m : Mem} (h : Sy.Good m.gl) : glOk vars m = true := by
  obtain ⟨g, a, b, c⟩ := m
  have h : g = glL Sy.syVars := h
  subst h
  exact (by kernel_rfl : glOk vars ⟨glL Sy.syVars, a, b, c⟩ = true)
theorem no_ext : ∀ (f : Nat) (a : List V) (m : Mem), f ∉ Sy.XS → extP f a m = none := fun f a m h => by
  simp only [Sy.XS, List.mem_cons, List.not_mem_nil, or_false, not_or] at h
  refine extTwo_none (extTold_none (by omega)) (extTwo_none ?_ (extL_none fun x hx => ?_))
  · refine extTwo_none (extIdx_none (by omega)) (extS_none fun x hx => ?_)
    simp only [memos, List.mem_cons, List.not_mem_nil, or_false] at hx
    rcases hx with rfl | rfl | rfl
    all_goals (first | (show 58 ≠ f; omega) | (show 46 ≠ f; omega))
  · simp only [told3, List.mem_cons, List.not_mem_nil, or_false] at hx
    rcases hx with rfl | rfl | rfl | rfl | rfl | rfl | rfl | rfl | rfl | rfl | rfl | rfl | rfl | rfl | rfl | rfl | rfl | rfl | rfl | rfl
    all_goals (first | (show 62 ≠ f; omega) | (show 16 ≠ f; omega) | (show 4 ≠ f; omega))
theorem grow3 {m : Mem} {el : Nat} {cs : List V} : ∀ (j : Nat) (v : V), cs[j]? = some v → (m.newU el cs cs.length).2.cell m.next j = some v := fun j v h => (Grow.first m el cs).1.cell h
theorem xh : Sy.XH extP where
  no := no_ext
  lev m hg := by
    obtain ⟨g, a, b, c⟩ := m
    have hg : g = glL Sy.syVars := hg
    subst hg
    refine ⟨_, _, (by kernel_rfl : extP 46 [] ⟨glL Sy.syVars, a, b, c⟩ = some (.sl a 0 3 3 1, ((⟨glL Sy.syVars, a, b, c⟩ : Mem).newU 9 [.str 4 1008745789, .str 3 2957355, .str 3 3088426] 3).2)), (Grow.first _ _ _).2.1, fun l hl => ?_⟩
    rcases (show l = 0 ∨ l = 1 ∨ l = 2 by omega) with rfl | rfl | rfl
    all_goals exact grow3 _ _ (show _ = _ by kernel_rfl)
  pri m hg := by
    obtain ⟨g, a, b, c⟩ := m
    have hg : g = glL Sy.syVars := hg
    subst hg
    refine ⟨_, _, (by kernel_rfl : extP 58 [Go.Ev.vs (txt [43, 32, 45, 32, 42, 32, 47, 32, 61, 61, 32, 60]), Go.Ev.vs (txt [32])] ⟨glL Sy.syVars, a, b, c⟩ = some (.sl a 0 6 6 1, ((⟨glL Sy.syVars, a, b, c⟩ : Mem).newU 9 [.str 1 43, .str 1 45, .str 1 42, .str 1 47, .str 2 15677, .str 1 60] 6).2)), (Grow.first _ _ _).2.1, ?_, fun l hl => ?_⟩
    · exact Nat.lt_succ_self a
    rcases (show l = 0 ∨ l = 1 ∨ l = 2 ∨ l = 3 ∨ l = 4 ∨ l = 5 by omega) with rfl | rfl | rfl | rfl | rfl | rfl
    all_goals exact grow3 _ _ (show _ = _ by kernel_rfl)
  con m l j hg hl hj := by
    obtain ⟨g, a, b, c⟩ := m
    have hg : g = glL Sy.syVars := hg
    subst hg
    rcases (show l = 0 ∨ l = 1 ∨ l = 2 by omega) with rfl | rfl | rfl <;> rcases (show j = 0 ∨ j = 1 ∨ j = 2 ∨ j = 3 ∨ j = 4 ∨ j = 5 by omega) with rfl | rfl | rfl | rfl | rfl | rfl
    all_goals exact (show _ = _ by kernel_rfl)
theorem lh : Sy.LH xb extP where
  no := no_ext
  idx l m hg hl := by
    obtain ⟨g, a, b, c⟩ := m
    have hg : g = glL Sy.syVars := hg
    subst hg
    refine ⟨_, extTwo_right (extTold_none (by decide)) (extTwo_left (extTwo_left (extIdx_eval rfl (show l.length < 4294967281 by omega)))), ?_⟩
    have := findSub_eq (txt l) (txt [10]) (l.length + 1) 0 (by rw [txt_len]; omega) (fun j hj => absurd hj (by omega))
    exact Sy.index10 l (this.symm ▸ rfl)
  kws m hg := by
    obtain ⟨g, a, b, c⟩ := m
    have hg : g = glL Sy.syVars := hg
    subst hg
    refine ⟨_, _, (by kernel_rfl : extP 58 [Go.Ev.vs (txt Sy.keywordsL), Go.Ev.vs (txt [32])] ⟨glL Sy.syVars, a, b, c⟩ = some (.sl a 0 17 17 1, ((⟨glL Sy.syVars, a, b, c⟩ : Mem).newU 9 [.str 3 7239014, .str 3 7628140, .str 3 6514034, .str 2 28265, .str 2 26217, .str 4 1852139636, .str 4 1702063205, .str 6 111516215828840, .str 4 1752459639, .str 6 121437875889522, .str 3 6581861, .str 2 28516, .str 2 28783, .str 4 1702195828, .str 5 435728179558, .str 3 7630441, .str 4 1819242338] 17).2)), (Grow.first _ _ _).2.1, ?_, fun j k hj => ?_⟩
    · exact Nat.lt_succ_self a
    have hj17 : j < 17 := (List.getElem?_eq_some_iff.1 hj).1
    refine grow3 _ _ ?_
    rcases (show j = 0 ∨ j = 1 ∨ j = 2 ∨ j = 3 ∨ j = 4 ∨ j = 5 ∨ j = 6 ∨ j = 7 ∨ j = 8 ∨ j = 9 ∨ j = 10 ∨ j = 11 ∨ j = 12 ∨ j = 13 ∨ j = 14 ∨ j = 15 ∨ j = 16 by omega) with rfl | rfl | rfl | rfl | rfl | rfl | rfl | rfl | rfl | rfl | rfl | rfl | rfl | rfl | rfl | rfl | rfl
    all_goals (cases (Option.some.inj hj).symm; exact (show _ = _ by kernel_rfl))
  toldN m hg := by
    obtain ⟨g, a, b, c⟩ := m
    have hg : g = glL Sy.syVars := hg
    subst hg
    exact (by kernel_rfl : extP 16 [.nili] ⟨glL Sy.syVars, a, b, c⟩ = some (.tup [.int .i64 0, .int .i64 0], ⟨glL Sy.syVars, a, b, c⟩))
  toldE m fb a c hg hb := by
    have h0 := hb.cell (i := 0) rfl
    have h1 := hb.cell (i := 1) rfl
    refine extTwo_left ?_
    unfold extT extTold
    rw [goodOk hg]
    simp only [h0, h1, Nat.beq_refl, Bool.and_self, cond_true]
  toldW m fb wb a s hg hb hw := by
    have h0 := hb.cell (i := 0) rfl
    have h1 := hb.cell (i := 1) rfl
    have h2 := hw.cell (i := 0) rfl
    unfold Go.Ev.vs at h2
    refine extTwo_left ?_
    unfold extT extTold
    rw [goodOk hg]
    simp only [h0, h1, h2, Nat.beq_refl, Bool.and_self, cond_true]
  xi l c m := by
    have hc := c.toNat_lt
    show (bif Nat.blt c.toNat 256 then some (V.int .i64 (findByte (bytesOf (txt l)) c.toNat (txt l).size 0), m) else none) = _
    rw [show Nat.blt c.toNat 256 = true by rw [Nat.blt_eq]; exact hc]
    rfl
theorem awP : ∀ m, Sy.Good m.gl → extP 4 [] m = some (.bool true, m) := fun m hg => by
  obtain ⟨g, a, b, c⟩ := m
  have hg : g = glL Sy.syVars := hg
  subst hg
  exact (by kernel_rfl : extP 4 [] ⟨glL Sy.syVars, a, b, c⟩ = some (.bool true, ⟨glL Sy.syVars, a, b, c⟩))
theorem memOf_good : Sy.Good (memOf vars).gl := rfl
theorem memOf_new : New (memOf vars) := fun b _ => rfl
theorem varsAtP {W : World} (hG : Err.ErrTy W) (hS : W.ShapedOpen Tryd.prog) : ∀ g i v, glL vars g i = some v → ∃ x, W.cell? ⟨g, i, none⟩ = some x ∧ Rel zeroS v x := fun g i v h => by
  have := glL_mem h
  unfold vars at this
  rcases List.mem_cons.1 this with h1 | h1
  · cases h1
    obtain ⟨k, hk⟩ := maxAt hS
    exact ⟨_, hk, .res _ _ _ k (Nat.mod_one _) (fun h => by cases h)⟩
  · rw [List.mem_singleton] at h1
    cases h1
    exact ⟨_, hG, .iface _ (Rel.aggL.2 (.cons (.gptr _ _) (.nil _)))⟩
theorem calls_par {f : Nat} {args : List V} {m' : Mem} (h : Ev Tryd.prog xb extP f args (memOf vars) (.bool true) m') {us : Array Value} {W : World} (hG : Err.ErrTy W) (hS : W.ShapedOpen Tryd.prog) (hr : RelL zeroS args us.toList) :
    Calls Tryd.prog f us W fun e W' => e = .returned (.bool true) ∧ RowKit.Below W.heap.size W W' := by
  obtain ⟨n, hn⟩ := h
  refine (calls_of (ok extP extPOk n) (hn n (Nat.le_refl _)) rfl (varsAtP hG hS) hr).mono fun e w' ⟨⟨x, he, hR⟩, hb⟩ => ?_
  cases hR
  exact ⟨he, hb⟩
end Go.Proofs.YtppcjlplihiiiaaDoor.Ev

namespace Go.Proofs.YtppcjlplihiiiaaDoor.Ev
open Go Go.Ev
set_option linter.unusedVariables false
theorem calls_ParseBlanks (a0 : ByteArray) (a1 : Int) (h0 : a0.size ≤ 140737488351232) (W : World) (hG : Err.ErrTy W) (hS : W.ShapedOpen Tryd.prog) : Calls Tryd.prog 3 #[.string a0, .int .i64 a1] W fun e W' => e = .returned (.bool true) ∧ RowKit.Below W.heap.size W W' := by
  have hl : a0.data.toList.length ≤ 140737488351232 := by rw [size_length]; exact h0
  obtain ⟨v, m', h, rfl⟩ := Sy.blanks_walk lh xh awP memOf_new memOf_good a0.data.toList hl ((a1 % 18446744073709551616).toNat % 4) (Nat.mod_lt _ (by decide))
  exact calls_par h (us := #[.string a0, .int .i64 a1]) hG hS (.cons (.str a0) (.cons (.res _ _ _ a1 rfl (fun h => by cases h)) (.nil _)))
end Go.Proofs.YtppcjlplihiiiaaDoor.Ev
