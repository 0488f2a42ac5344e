/- Several texts in one: contracts of functions of the program, and what they lean on. In part written by a program of this session over the kit's print, in part by hand. -/
import Derived.Test.YtfcjpkkglffnmaaGreatDoorYScopes2
import Derived.Test.YtfcjpkkglffnmaaGreatDoorYScopes7
import Derived.Test.YtfcjpkkglffnmaaGreatDoorYScopes11
import Derived.Test.YtfcjpkkglffnmaaGreatDoorYScopes0
import Derived.Test.YtfcjpkkglffnmaaGreatDoorYScopes4
import Derived.Test.YtfcjpkkglffnmaaGreatDoorYScopes6
import Derived.Test.YtfcjpkkglffnmaaGreatDoorYScopes5
namespace Go.Proofs.YtfcjpkkglffnmaaGreatDoor.H
open Go.RowKit Go.Proofs.YtfcjpkkglffnmaaGreatDoorW.PrintWords Go.Proofs.YtfcjpkkglffnmaaGreatDoorW.PrintLast Go.Proofs.YtfcjpkkglffnmaaGreatDoorW.PrintMore
attribute [local go_sem] Vz V3 za0 za1 Vd Ve V4 V5
set_option linter.unusedVariables false
set_option linter.unusedSimpArgs false
mutual
def yl.j0 : Nat → Bool → List (S42) → List (S44) → Option (Bool)
 | 0, _, _, _ => none
 | k + 1, x14, x254000, x254001 => if x14 = true then (some false) else (yl.l0 k 0 x254000 x254001)
def yl.l0 : Nat → Int → List (S42) → List (S44) → Option (Bool)
 | 0, _, _, _ => none
 | k + 1, x3, x254000, x254001 => if x3 < (x254000.length : Int) then (yl.l1 k x3 0 x254000 x254001) else ((yt.f k x254000 x254001 (wrap64 ((x254001.length : Int) - 1)) 0).bind fun t256 => (some t256))
def yl.l1 : Nat → Int → Int → List (S42) → List (S44) → Option (Bool)
 | 0, _, _, _, _ => none
 | k + 1, x3, x4, x254000, x254001 => if x4 < x3 then (if 0 ≤ x3 then (if x3 < (x254000.length : Int) then (if 0 ≤ x4 then (if x4 < (x254000.length : Int) then (if ((Zp x254000 x3).f0).toList = ((Zp x254000 x4).f0).toList then (some false) else (yl.l1 k x3 (wrap64 (x4 + 1)) x254000 x254001)) else (none)) else (none)) else (none)) else (none)) else (yl.l0 k (wrap64 (x3 + 1)) x254000 x254001)
end
def yl.f (k : Nat) (vk : List (S42)) (vw : List (S44)) : Option (Bool) := (Zz.f k vk).bind fun t254 => (if t254 = true then ((Zo.f k vw false).bind fun t255 => (yl.j0 k (!t255) vk vw)) else (yl.j0 k true vk vw))
set_option maxHeartbeats 8000000 in
set_option maxRecDepth 100000 in
theorem yl.calls (k : Nat) (Ye : Option Addr) (Yf : Nat) (vk : List (S42)) (Xb : Option Addr) (Yo : Nat) (vw : List (S44)) (r : Bool) (w : World) (hr0_0 : Kd.C k42 w Ye vk.length vk) (hc0_0 : vk.length ≤ Yf) (hr0_1 : Kd.C k44 w Xb vw.length vw) (hc0_1 : vw.length ≤ Yo) (h : yl.f k vk vw = some r) :
  Calls Tryz.prog 10 #[.agg #[.slice Ye vk.length Yf, .slice Xb vw.length Yo]] w fun e w' => e = .returned (.bool r) ∧ Below w.heap.size w w' := by
 have hu25 := Tryz.underlying25;have zbt := zf.mk hr0_0;have zcd := zf.mk hc0_0;clear hr0_0 hc0_0;have zdv := zf.mk hr0_1;have zdw := zf.mk hc0_1;clear hr0_1 hc0_1;have HB := zf.mk (Below.refl w.heap.size w);have H : ((Zz.f k vk).bind fun t254 => (if t254 = true then ((Zo.f k vw false).bind fun t255 => (yl.j0 k (!t255) vk vw)) else (yl.j0 k true vk vw))) = some r := h;clear h;have HC2 := zf.mk H;clear H;go_enter Tryz.func10, Tryz.ntmps10;go_upto_region 1 with (first | ((with_reducible refine Yx (N := 1) rfl ?_); refine Y7 ?hg (N := 1) ?hd (cs := #[.slice Ye vk.length Yf, .slice Xb vw.length Yo]) (t := 25) ?hr ?_; (case hd => rfl); (case hg => rfl); (case hr => first | (go_simp; done) | (go_simp; rfl)); intro zee hg w3 hbox hb; have n0_ := zf.mk (Zc (by repeat (first | (with_reducible first | exact HB.out | apply zh | apply zg | apply zk) | exact HB.out)) hb); have n1_ := zf.mk (hbox); have n2_ := zf.mk ((by rw [hg]; exact (xn (by repeat (first | (with_reducible first | exact HB.out | apply zh | apply zg | apply zk) | exact HB.out))) : w.heap.size ≤ zee)); have n3_ := zf.mk ((by rw [hg]; exact (xn (by repeat (first | (with_reducible first | exact HB.out | apply zh | apply zg | apply zk) | exact HB.out))) : w.heap.size ≤ zee)); clear HB; have HB := n0_; have Vu := n1_; have GW253 := n2_; have zdl := n3_; clear n0_ n1_ n2_ n3_; clear hb hbox hg))
 repeat (go_quiet (first | ((with_reducible refine Yx (N := 1) rfl ?_); refine Y7 ?hg (N := 1) ?hd (cs := #[.slice Ye vk.length Yf, .slice Xb vw.length Yo]) (t := 25) ?hr ?_; (case hd => rfl); (case hg => rfl); (case hr => first | (go_simp; done) | (go_simp; rfl)); intro zee hg w3 hbox hb; have n0_ := zf.mk (Zc (by repeat (first | (with_reducible first | exact HB.out | apply zh | apply zg | apply zk) | exact HB.out)) hb); have n1_ := zf.mk (hbox); have n2_ := zf.mk ((by rw [hg]; exact (xn (by repeat (first | (with_reducible first | exact HB.out | apply zh | apply zg | apply zk) | exact HB.out))) : w.heap.size ≤ zee)); have n3_ := zf.mk ((by rw [hg]; exact (xn (by repeat (first | (with_reducible first | exact HB.out | apply zh | apply zg | apply zk) | exact HB.out))) : w.heap.size ≤ zee)); clear HB; have HB := n0_; have Vu := n1_; have GW253 := n2_; have zdl := n3_; clear n0_ n1_ n2_ n3_; clear hb hbox hg)); go_upto_region 1 with (first | ((with_reducible refine Yx (N := 1) rfl ?_); refine Y7 ?hg (N := 1) ?hd (cs := #[.slice Ye vk.length Yf, .slice Xb vw.length Yo]) (t := 25) ?hr ?_; (case hd => rfl); (case hg => rfl); (case hr => first | (go_simp; done) | (go_simp; rfl)); intro zee hg w3 hbox hb; have n0_ := zf.mk (Zc (by repeat (first | (with_reducible first | exact HB.out | apply zh | apply zg | apply zk) | exact HB.out)) hb); have n1_ := zf.mk (hbox); have n2_ := zf.mk ((by rw [hg]; exact (xn (by repeat (first | (with_reducible first | exact HB.out | apply zh | apply zg | apply zk) | exact HB.out))) : w.heap.size ≤ zee)); have n3_ := zf.mk ((by rw [hg]; exact (xn (by repeat (first | (with_reducible first | exact HB.out | apply zh | apply zg | apply zk) | exact HB.out))) : w.heap.size ≤ zee)); clear HB; have HB := n0_; have Vu := n1_; have GW253 := n2_; have zdl := n3_; clear n0_ n1_ n2_ n3_; clear hb hbox hg)))
 (try simp only [Act.put, List.setIfInBounds_toArray, List.set_cons_zero, List.set_cons_succ])
 go_cut [14] (fun v14 wc => ∃ (kq : Nat) (x14_1 : Bool), v14 = .bool x14_1 ∧ zf (yl.j0 kq x14_1 vk vw = some r) ∧ zf (kq ≤ k) ∧ zf (wc.heap[zee]? = some (.cells #[(.slice Ye vk.length Yf), (.slice Xb vw.length Yo)] 25 (0, 0))) ∧ zf (Below w.heap.size w wc))
 case first =>
  have H := HC2.out;clear HC2;replace H := Option.bind_eq_some_iff.mp H;obtain ⟨t254, A40, H⟩ := H;replace H : (if t254 = true then ((Zo.f k vw false).bind fun t255 => (yl.j0 k (!t255) vk vw)) else (yl.j0 k true vk vw)) = some r := H;have A4 := zf.mk A40;clear A40;by_cases c5 : t254 = true
  ·
   subst c5;have H1 : ((Zo.f k vw false).bind fun t255 => (yl.j0 k (!t255) vk vw)) = some r := by rw [if_pos rfl] at H; exact H
   clear H;have H := H1;clear H1;replace H := Option.bind_eq_some_iff.mp H;obtain ⟨t255, A60, H⟩ := H;replace H : (yl.j0 k (!t255) vk vw) = some r := H;have A6 := zf.mk A60;clear A60;have H' := zf.mk H;clear H;obtain ⟨zl6, zl7⟩ := Xt Vu.out;have zl8 := zx Vu.out 0;have zl9 := zx Vu.out 1;go_wp2_with (first | (go_at_call 29; (with_reducible refine (Zz.calls k _ _ vk true _ ?side1 ?side2 A4.out).mono ?_); (case side1 => repeat (first | exact (Kd.Zq zbt.out HB.out) | (with_reducible refine Kd.Yg ?_ _) | (with_reducible refine Kd.Ym ?_ _) | (with_reducible refine Kd.Yv ?_))); (case side2 => exact zcd.out); rintro e w' ⟨rfl, ⟨nd, rfl⟩⟩; (try first | exact ⟨rfl, _, World.drewN_drewN _ _ _⟩ | exact ⟨rfl, _, Eq.trans (World.drewN_drewN _ _ _) (congrArg (World.drewN _) (Nat.add_assoc _ _ _))⟩)) | (go_at_call 30; (with_reducible refine (Zo.calls k _ _ vw false t255 _ ?side1 ?side2 A6.out).mono ?_); (case side1 => repeat (first | exact (Kd.Zq zdv.out (by repeat (first | (with_reducible first | exact HB.out | apply zh | apply zg | apply zk | refine zi ?_ zdl.out) | exact HB.out))) | (with_reducible refine Kd.Yg ?_ _) | (with_reducible refine Kd.Ym ?_ _) | (with_reducible refine Kd.Yv ?_))); (case side2 => exact zdw.out); rintro e w8 ⟨rfl, hb⟩; have n0_ := zf.mk (zy (g := zee) (o := .cells #[.slice Ye vk.length Yf, .slice Xb vw.length Yo] 25 (0, 0)) (by (with_reducible repeat (first | refine zn ?_ _ | refine zq ?_ | refine zo ?_ _)); exact Vu.out) hb); have n1_ := zf.mk (Zc (by repeat (first | (with_reducible first | exact HB.out | apply zh | apply zg | apply zk | refine zi ?_ zdl.out) | exact HB.out)) hb); clear Vu; clear HB; have Vu := n0_; have HB := n1_; clear n0_ n1_; (try clear hb); (try clear hb2); (try clear hk); (try clear hi)))
   repeat (go_quiet (first | (go_at_call 29; (with_reducible refine (Zz.calls k _ _ vk true _ ?side1 ?side2 A4.out).mono ?_); (case side1 => repeat (first | exact (Kd.Zq zbt.out HB.out) | (with_reducible refine Kd.Yg ?_ _) | (with_reducible refine Kd.Ym ?_ _) | (with_reducible refine Kd.Yv ?_))); (case side2 => exact zcd.out); rintro e w' ⟨rfl, ⟨nd, rfl⟩⟩; (try first | exact ⟨rfl, _, World.drewN_drewN _ _ _⟩ | exact ⟨rfl, _, Eq.trans (World.drewN_drewN _ _ _) (congrArg (World.drewN _) (Nat.add_assoc _ _ _))⟩)) | (go_at_call 30; (with_reducible refine (Zo.calls k _ _ vw false t255 _ ?side1 ?side2 A6.out).mono ?_); (case side1 => repeat (first | exact (Kd.Zq zdv.out (by repeat (first | (with_reducible first | exact HB.out | apply zh | apply zg | apply zk | refine zi ?_ zdl.out) | exact HB.out))) | (with_reducible refine Kd.Yg ?_ _) | (with_reducible refine Kd.Ym ?_ _) | (with_reducible refine Kd.Yv ?_))); (case side2 => exact zdw.out); rintro e w8 ⟨rfl, hb⟩; have n0_ := zf.mk (zy (g := zee) (o := .cells #[.slice Ye vk.length Yf, .slice Xb vw.length Yo] 25 (0, 0)) (by (with_reducible repeat (first | refine zn ?_ _ | refine zq ?_ | refine zo ?_ _)); exact Vu.out) hb); have n1_ := zf.mk (Zc (by repeat (first | (with_reducible first | exact HB.out | apply zh | apply zg | apply zk | refine zi ?_ zdl.out) | exact HB.out)) hb); clear Vu; clear HB; have Vu := n0_; have HB := n1_; clear n0_ n1_; (try clear hb); (try clear hb2); (try clear hk); (try clear hi))); try go_wp2_with (first | (go_at_call 29; (with_reducible refine (Zz.calls k _ _ vk true _ ?side1 ?side2 A4.out).mono ?_); (case side1 => repeat (first | exact (Kd.Zq zbt.out HB.out) | (with_reducible refine Kd.Yg ?_ _) | (with_reducible refine Kd.Ym ?_ _) | (with_reducible refine Kd.Yv ?_))); (case side2 => exact zcd.out); rintro e w' ⟨rfl, ⟨nd, rfl⟩⟩; (try first | exact ⟨rfl, _, World.drewN_drewN _ _ _⟩ | exact ⟨rfl, _, Eq.trans (World.drewN_drewN _ _ _) (congrArg (World.drewN _) (Nat.add_assoc _ _ _))⟩)) | (go_at_call 30; (with_reducible refine (Zo.calls k _ _ vw false t255 _ ?side1 ?side2 A6.out).mono ?_); (case side1 => repeat (first | exact (Kd.Zq zdv.out (by repeat (first | (with_reducible first | exact HB.out | apply zh | apply zg | apply zk | refine zi ?_ zdl.out) | exact HB.out))) | (with_reducible refine Kd.Yg ?_ _) | (with_reducible refine Kd.Ym ?_ _) | (with_reducible refine Kd.Yv ?_))); (case side2 => exact zdw.out); rintro e w8 ⟨rfl, hb⟩; have n0_ := zf.mk (zy (g := zee) (o := .cells #[.slice Ye vk.length Yf, .slice Xb vw.length Yo] 25 (0, 0)) (by (with_reducible repeat (first | refine zn ?_ _ | refine zq ?_ | refine zo ?_ _)); exact Vu.out) hb); have n1_ := zf.mk (Zc (by repeat (first | (with_reducible first | exact HB.out | apply zh | apply zg | apply zk | refine zi ?_ zdl.out) | exact HB.out)) hb); clear Vu; clear HB; have Vu := n0_; have HB := n1_; clear n0_ n1_; (try clear hb); (try clear hb2); (try clear hk); (try clear hi))))
   go_meet
   case rel => exact ⟨_, (!t255), (by first | rfl | (simp; done) | (simp [*]; done)), H', ⟨by first | omega | exact Nat.le_refl _⟩, ⟨by (with_reducible repeat (first | refine zn ?_ _ | refine zq ?_ | refine zo ?_ _)); exact Vu.out⟩, ⟨by repeat (first | (with_reducible first | exact HB.out | apply zh | apply zg | apply zk | refine zi ?_ zdl.out) | exact HB.out)⟩⟩
  ·
   replace c5 := Bool.eq_false_iff.mpr c5;subst c5;have H1 : (yl.j0 k true vk vw) = some r := by rw [if_neg (show ¬ (false = true) by decide)] at H; exact H
   clear H;have H := H1;clear H1;have H' := zf.mk H;clear H;obtain ⟨zjq, zjr⟩ := Xt Vu.out;have zjs := zx Vu.out 0;have zjt := zx Vu.out 1;go_wp2_with (first | (go_at_call 29; (with_reducible refine (Zz.calls k _ _ vk false _ ?side1 ?side2 A4.out).mono ?_); (case side1 => repeat (first | exact (Kd.Zq zbt.out HB.out) | (with_reducible refine Kd.Yg ?_ _) | (with_reducible refine Kd.Ym ?_ _) | (with_reducible refine Kd.Yv ?_))); (case side2 => exact zcd.out); rintro e w' ⟨rfl, ⟨nd, rfl⟩⟩; (try first | exact ⟨rfl, _, World.drewN_drewN _ _ _⟩ | exact ⟨rfl, _, Eq.trans (World.drewN_drewN _ _ _) (congrArg (World.drewN _) (Nat.add_assoc _ _ _))⟩)))
   repeat (go_quiet (first | (go_at_call 29; (with_reducible refine (Zz.calls k _ _ vk false _ ?side1 ?side2 A4.out).mono ?_); (case side1 => repeat (first | exact (Kd.Zq zbt.out HB.out) | (with_reducible refine Kd.Yg ?_ _) | (with_reducible refine Kd.Ym ?_ _) | (with_reducible refine Kd.Yv ?_))); (case side2 => exact zcd.out); rintro e w' ⟨rfl, ⟨nd, rfl⟩⟩; (try first | exact ⟨rfl, _, World.drewN_drewN _ _ _⟩ | exact ⟨rfl, _, Eq.trans (World.drewN_drewN _ _ _) (congrArg (World.drewN _) (Nat.add_assoc _ _ _))⟩))); try go_wp2_with (first | (go_at_call 29; (with_reducible refine (Zz.calls k _ _ vk false _ ?side1 ?side2 A4.out).mono ?_); (case side1 => repeat (first | exact (Kd.Zq zbt.out HB.out) | (with_reducible refine Kd.Yg ?_ _) | (with_reducible refine Kd.Ym ?_ _) | (with_reducible refine Kd.Yv ?_))); (case side2 => exact zcd.out); rintro e w' ⟨rfl, ⟨nd, rfl⟩⟩; (try first | exact ⟨rfl, _, World.drewN_drewN _ _ _⟩ | exact ⟨rfl, _, Eq.trans (World.drewN_drewN _ _ _) (congrArg (World.drewN _) (Nat.add_assoc _ _ _))⟩))))
   go_meet
   case rel => exact ⟨_, (true), (by first | rfl | (simp; done) | (simp [*]; done)), H', ⟨by first | omega | exact Nat.le_refl _⟩, ⟨by (with_reducible repeat (first | refine zn ?_ _ | refine zq ?_ | refine zo ?_ _)); exact Vu.out⟩, ⟨by repeat (first | (with_reducible first | exact HB.out | apply zh | apply zg | apply zk | refine zi ?_ zdl.out) | exact HB.out)⟩⟩
 case rest =>
  clear HC2;try clear c1
  try clear p2
  try clear c5
  try clear zl6
  try clear zl7
  try clear zjq
  try clear zjr
  try clear zl8
  try clear zl9
  try clear zjs
  try clear zjt
  obtain ⟨kq, x14_1, rfl, HA, HJ1, Vu, HB⟩ := hcut;cases kq with
  | zero => exact absurd HA.out (by simp [yl.j0])
  | succ kj1 =>
   have H := HA.out;clear HA;simp only [yl.j0] at H;by_cases c10 : x14_1 = true
   ·
    subst c10;have H1 : (some false) = some r := by rw [if_pos rfl] at H; exact H
    clear H;have H := H1;clear H1;obtain rfl := Option.some.inj H;go_wp2
    repeat (go_quiet (fail); try go_wp2)
    go_ret;exact ⟨by first | rfl | (simp [Zd, Ze] <;> rfl) | (simp [*, Zd, Ze] <;> rfl), by repeat (first | (with_reducible first | exact HB.out | apply zh | apply zg | apply zk | refine zi ?_ zdl.out) | exact HB.out)⟩
   ·
    replace c10 := Bool.eq_false_iff.mpr c10;subst c10;have H1 : (yl.l0 kj1 0 vk vw) = some r := by rw [if_neg (show ¬ (false = true) by decide)] at H; exact H
    clear H;have H := H1;clear H1;have H' := zf.mk H;clear H;go_wp2
    repeat (go_quiet (fail); try go_wp2)
    go_loopg [3] kj1 (fun kq v3 w' => ∃ (x3_2 : Int), v3 = .int .i64 x3_2 ∧ zf (yl.l0 kq x3_2 vk vw = some r) ∧ zf (kq ≤ kj1) ∧ zf (w'.heap[zee]? = some (.cells #[(.slice Ye vk.length Yf), (.slice Xb vw.length Yo)] 25 (0, 0))) ∧ zf (Below w.heap.size w w'))
    case atStart => exact ⟨(0), (by first | rfl | (simp; done) | (simp [*]; done)), H', ⟨Nat.le_refl _⟩, ⟨by (with_reducible repeat (first | refine zn ?_ _ | refine zq ?_ | refine zo ?_ _)); exact Vu.out⟩, ⟨by repeat (first | (with_reducible first | exact HB.out | apply zh | apply zg | apply zk | refine zi ?_ zdl.out) | exact HB.out)⟩⟩
    case round =>
     clear H';try clear c1
     try clear p2
     try clear c5
     try clear c10
     try clear zl6
     try clear zl7
     try clear zjq
     try clear zjr
     try clear zl8
     try clear zl9
     try clear zjs
     try clear zjt
     try clear p2
     obtain ⟨x3_2, rfl, HA, HK2, Vu, HB⟩ := hrel;cases gk with
     | zero => exact absurd HA.out (by simp [yl.l0])
     | succ k2 =>
      have H := HA.out;clear HA;simp only [yl.l0] at H;by_cases c11 : x3_2 < (vk.length : Int)
      ·
       rw [if_pos c11] at H;have zgt : decide (x3_2 < (vk.length : Int)) = true := decide_eq_true c11;clear c11;have H' := zf.mk H;clear H;obtain ⟨zoh, zoi⟩ := Xt Vu.out;have zoj := zx Vu.out 0;have zok := zx Vu.out 1;go_wp2
       repeat (go_quiet (fail); try go_wp2)
       go_loopg [4] k2 (fun kq v4 w' => ∃ (x4_3 : Int), v4 = .int .i64 x4_3 ∧ zf (yl.l1 kq x3_2 x4_3 vk vw = some r) ∧ zf (kq ≤ k2) ∧ zf (w'.heap[zee]? = some (.cells #[(.slice Ye vk.length Yf), (.slice Xb vw.length Yo)] 25 (0, 0))) ∧ zf (Below w.heap.size w w'))
       case atStart => exact ⟨(0), (by first | rfl | (simp; done) | (simp [*]; done)), H', ⟨Nat.le_refl _⟩, ⟨by (with_reducible repeat (first | refine zn ?_ _ | refine zq ?_ | refine zo ?_ _)); exact Vu.out⟩, ⟨by repeat (first | (with_reducible first | exact HB.out | apply zh | apply zg | apply zk | refine zi ?_ zdl.out) | exact HB.out)⟩⟩
       case round =>
        clear H';try clear c1
        try clear p2
        try clear c5
        try clear c10
        try clear c11
        try clear zgt
        try clear zoh
        try clear zoi
        try clear zl6
        try clear zl7
        try clear zjq
        try clear zjr
        try clear zoj
        try clear zok
        try clear zl8
        try clear zl9
        try clear zjs
        try clear zjt
        try clear p2
        obtain ⟨x4_3, rfl, HA, HK3, Vu, HB⟩ := hrel;cases gk with
        | zero => exact absurd HA.out (by simp [yl.l1])
        | succ k3 =>
         have H := HA.out;clear HA;simp only [yl.l1] at H;by_cases c13 : x4_3 < x3_2
         ·
          rw [if_pos c13] at H;have zdp : decide (x4_3 < x3_2) = true := decide_eq_true c13;clear c13;by_cases c14 : 0 ≤ x3_2
          ·
           rw [if_pos c14] at H;have c14b0 : decide (0 ≤ x3_2) = true := decide_eq_true c14;clear c14;by_cases c15 : x3_2 < (vk.length : Int)
           ·
            rw [if_pos c15] at H;have znk : decide (x3_2 < (vk.length : Int)) = true := decide_eq_true c15;clear c15;by_cases c16 : 0 ≤ x4_3
            ·
             rw [if_pos c16] at H;have c16b0 : decide (0 ≤ x4_3) = true := decide_eq_true c16;clear c16;by_cases c17 : x4_3 < (vk.length : Int)
             ·
              rw [if_pos c17] at H;have c17b0 : decide (x4_3 < (vk.length : Int)) = true := decide_eq_true c17;clear c17;by_cases c18 : ((Zp vk x3_2).f0).toList = ((Zp vk x4_3).f0).toList
              ·
               rw [if_pos c18] at H;have c18b0 : (((Zp vk x3_2).f0).toList == ((Zp vk x4_3).f0).toList) = true := beq_iff_eq.mpr c18;have c18b1 : (((Zp vk x3_2).f0).toList != ((Zp vk x4_3).f0).toList) = false := bne_eq_false_iff_eq.mpr c18;clear c18;obtain rfl := Option.some.inj H;obtain ⟨hcz19_0, hcz19_1⟩ := Xt Vu.out;have hfz19_0 := zx Vu.out 0;have hfz19_1 := zx Vu.out 1;have p257 : 0 ≤ (x3_2 : Int) := of_decide_eq_true (by first | (with_reducible assumption) | assumption);have q257 : x3_2 < (vk.length : Int) := of_decide_eq_true (by first | (with_reducible assumption) | assumption);obtain ⟨ad257, e257, zi3, zi4, zi5⟩ := za5 zbt.out x3_2 p257 q257;cases e257;obtain ⟨zi3, zi4, zi5⟩ := zk3 HB.out zi3 zi4 zi5;replace p257 := eq_true p257;replace q257 := eq_true q257;have p258 : 0 ≤ (x4_3 : Int) := of_decide_eq_true (by first | (with_reducible assumption) | assumption);have q258 : x4_3 < (vk.length : Int) := of_decide_eq_true (by first | (with_reducible assumption) | assumption);obtain ⟨ad258, e258, zi6, zi7, zi9⟩ := za5 zbt.out x4_3 p258 q258;obtain rfl : ad257 = ad258 := (by injection e258);obtain ⟨zi6, zi7, zi9⟩ := zk3 HB.out zi6 zi7 zi9;replace p258 := eq_true p258;replace q258 := eq_true q258;go_wp2
               repeat (go_quiet (fail); try go_wp2)
               go_ret;exact ⟨by first | rfl | (simp [Zd, Ze] <;> rfl) | (simp [*, Zd, Ze] <;> rfl), by repeat (first | (with_reducible first | exact HB.out | apply zh | apply zg | apply zk | refine zi ?_ zdl.out) | exact HB.out)⟩
              ·
               rw [if_neg c18] at H;have c18b0 : (((Zp vk x3_2).f0).toList == ((Zp vk x4_3).f0).toList) = false := beq_eq_false_iff_ne.mpr c18;have c18b1 : (((Zp vk x3_2).f0).toList != ((Zp vk x4_3).f0).toList) = true := bne_iff_ne.mpr c18;have H' := zf.mk H;clear H;obtain ⟨hcz20_0, hcz20_1⟩ := Xt Vu.out;have hfz20_0 := zx Vu.out 0;have hfz20_1 := zx Vu.out 1;have p257 : 0 ≤ (x3_2 : Int) := of_decide_eq_true (by first | (with_reducible assumption) | assumption);have q257 : x3_2 < (vk.length : Int) := of_decide_eq_true (by first | (with_reducible assumption) | assumption);obtain ⟨ad257, e257, zi3, zi4, zi5⟩ := za5 zbt.out x3_2 p257 q257;cases e257;obtain ⟨zi3, zi4, zi5⟩ := zk3 HB.out zi3 zi4 zi5;replace p257 := eq_true p257;replace q257 := eq_true q257;have p258 : 0 ≤ (x4_3 : Int) := of_decide_eq_true (by first | (with_reducible assumption) | assumption);have q258 : x4_3 < (vk.length : Int) := of_decide_eq_true (by first | (with_reducible assumption) | assumption);obtain ⟨ad258, e258, zi6, zi7, zi9⟩ := za5 zbt.out x4_3 p258 q258;obtain rfl : ad257 = ad258 := (by injection e258);obtain ⟨zi6, zi7, zi9⟩ := zk3 HB.out zi6 zi7 zi9;replace p258 := eq_true p258;replace q258 := eq_true q258;go_wp2
               repeat (go_quiet (fail); try go_wp2)
               go_roundg k3
               case measure => have := HJ1.out; have := HK2.out; have := HK3.out; omega
               case rel => exact ⟨(wrap64 (x4_3 + 1)), (by first | rfl | (simp; done) | (simp [*]; done)), H', ⟨by have := HJ1.out; have := HK2.out; have := HK3.out; omega⟩, ⟨by (with_reducible repeat (first | refine zn ?_ _ | refine zq ?_ | refine zo ?_ _)); exact Vu.out⟩, ⟨by repeat (first | (with_reducible first | exact HB.out | apply zh | apply zg | apply zk | refine zi ?_ zdl.out) | exact HB.out)⟩⟩
             ·
              rw [if_neg c17] at H;exact absurd H (by simp)
            ·
             rw [if_neg c16] at H;exact absurd H (by simp)
           ·
            rw [if_neg c15] at H;exact absurd H (by simp)
          ·
           rw [if_neg c14] at H;exact absurd H (by simp)
         ·
          rw [if_neg c13] at H;have zdp : decide (x4_3 < x3_2) = false := decide_eq_false c13;clear c13;have H' := zf.mk H;clear H;go_wp2
          repeat (go_quiet (fail); try go_wp2)
          go_roundg k3
          case measure => have := HJ1.out; have := HK2.out; have := HK3.out; omega
          case rel => exact ⟨(wrap64 (x3_2 + 1)), (by first | rfl | (simp; done) | (simp [*]; done)), H', ⟨by have := HJ1.out; have := HK2.out; have := HK3.out; omega⟩, ⟨by (with_reducible repeat (first | refine zn ?_ _ | refine zq ?_ | refine zo ?_ _)); exact Vu.out⟩, ⟨by repeat (first | (with_reducible first | exact HB.out | apply zh | apply zg | apply zk | refine zi ?_ zdl.out) | exact HB.out)⟩⟩
      ·
       rw [if_neg c11] at H;have zgt : decide (x3_2 < (vk.length : Int)) = false := decide_eq_false c11;clear c11;replace H := Option.bind_eq_some_iff.mp H;obtain ⟨t256, A210, H⟩ := H;replace H : (some t256) = some r := H;have A21 := zf.mk A210;clear A210;obtain rfl := Option.some.inj H;obtain ⟨hcz22_0, hcz22_1⟩ := Xt Vu.out;have hfz22_0 := zx Vu.out 0;have hfz22_1 := zx Vu.out 1;go_wp2_with (first | (go_at_call 31; (with_reducible refine (yt.calls k2 _ _ vk _ _ vw (wrap64 ((vw.length : Int) - 1)) 0 t256 _ ?side1 ?side2 ?side3 ?side4 A21.out).mono ?_); (case side1 => repeat (first | exact (Kd.Zq zbt.out HB.out) | (with_reducible refine Kd.Yg ?_ _) | (with_reducible refine Kd.Ym ?_ _) | (with_reducible refine Kd.Yv ?_))); (case side2 => exact zcd.out); (case side3 => repeat (first | exact (Kd.Zq zdv.out HB.out) | (with_reducible refine Kd.Yg ?_ _) | (with_reducible refine Kd.Ym ?_ _) | (with_reducible refine Kd.Yv ?_))); (case side4 => exact zdw.out); rintro e w23 ⟨rfl, hb⟩; have n0_ := zf.mk (zy (g := zee) (o := .cells #[.slice Ye vk.length Yf, .slice Xb vw.length Yo] 25 (0, 0)) (by (with_reducible repeat (first | refine zn ?_ _ | refine zq ?_ | refine zo ?_ _)); exact Vu.out) hb); have n1_ := zf.mk (Zc (by repeat (first | (with_reducible first | exact HB.out | apply zh | apply zg | apply zk | refine zi ?_ zdl.out) | exact HB.out)) hb); clear Vu; clear HB; have Vu := n0_; have HB := n1_; clear n0_ n1_; (try clear hb); (try clear hb2); (try clear hk); (try clear hi)))
       repeat (go_quiet (first | (go_at_call 31; (with_reducible refine (yt.calls k2 _ _ vk _ _ vw (wrap64 ((vw.length : Int) - 1)) 0 t256 _ ?side1 ?side2 ?side3 ?side4 A21.out).mono ?_); (case side1 => repeat (first | exact (Kd.Zq zbt.out HB.out) | (with_reducible refine Kd.Yg ?_ _) | (with_reducible refine Kd.Ym ?_ _) | (with_reducible refine Kd.Yv ?_))); (case side2 => exact zcd.out); (case side3 => repeat (first | exact (Kd.Zq zdv.out HB.out) | (with_reducible refine Kd.Yg ?_ _) | (with_reducible refine Kd.Ym ?_ _) | (with_reducible refine Kd.Yv ?_))); (case side4 => exact zdw.out); rintro e w23 ⟨rfl, hb⟩; have n0_ := zf.mk (zy (g := zee) (o := .cells #[.slice Ye vk.length Yf, .slice Xb vw.length Yo] 25 (0, 0)) (by (with_reducible repeat (first | refine zn ?_ _ | refine zq ?_ | refine zo ?_ _)); exact Vu.out) hb); have n1_ := zf.mk (Zc (by repeat (first | (with_reducible first | exact HB.out | apply zh | apply zg | apply zk | refine zi ?_ zdl.out) | exact HB.out)) hb); clear Vu; clear HB; have Vu := n0_; have HB := n1_; clear n0_ n1_; (try clear hb); (try clear hb2); (try clear hk); (try clear hi))); try go_wp2_with (first | (go_at_call 31; (with_reducible refine (yt.calls k2 _ _ vk _ _ vw (wrap64 ((vw.length : Int) - 1)) 0 t256 _ ?side1 ?side2 ?side3 ?side4 A21.out).mono ?_); (case side1 => repeat (first | exact (Kd.Zq zbt.out HB.out) | (with_reducible refine Kd.Yg ?_ _) | (with_reducible refine Kd.Ym ?_ _) | (with_reducible refine Kd.Yv ?_))); (case side2 => exact zcd.out); (case side3 => repeat (first | exact (Kd.Zq zdv.out HB.out) | (with_reducible refine Kd.Yg ?_ _) | (with_reducible refine Kd.Ym ?_ _) | (with_reducible refine Kd.Yv ?_))); (case side4 => exact zdw.out); rintro e w23 ⟨rfl, hb⟩; have n0_ := zf.mk (zy (g := zee) (o := .cells #[.slice Ye vk.length Yf, .slice Xb vw.length Yo] 25 (0, 0)) (by (with_reducible repeat (first | refine zn ?_ _ | refine zq ?_ | refine zo ?_ _)); exact Vu.out) hb); have n1_ := zf.mk (Zc (by repeat (first | (with_reducible first | exact HB.out | apply zh | apply zg | apply zk | refine zi ?_ zdl.out) | exact HB.out)) hb); clear Vu; clear HB; have Vu := n0_; have HB := n1_; clear n0_ n1_; (try clear hb); (try clear hb2); (try clear hk); (try clear hi))))
       go_ret;exact ⟨by first | rfl | (simp [Zd, Ze] <;> rfl) | (simp [*, Zd, Ze] <;> rfl), by repeat (first | (with_reducible first | exact HB.out | apply zh | apply zg | apply zk | refine zi ?_ zdl.out) | exact HB.out)⟩
end Go.Proofs.YtfcjpkkglffnmaaGreatDoor.H

set_option linter.unusedVariables false
namespace Go.Proofs.YtfcjpkkglffnmaaGreatDoor.Src
open Go.RowKit Go.Proofs.YtfcjpkkglffnmaaGreatDoorW.PrintWords
end Go.Proofs.YtfcjpkkglffnmaaGreatDoor.Src

set_option linter.unusedVariables false
set_option linter.unusedSimpArgs false
set_option maxHeartbeats 1000000
namespace Go.Proofs.YtfcjpkkglffnmaaGreatDoor.H
open Go.RowKit Go.Proofs.YtfcjpkkglffnmaaGreatDoorW.PrintWords Go.Proofs.YtfcjpkkglffnmaaGreatDoorW.PrintLast Go.Proofs.YtfcjpkkglffnmaaGreatDoorW.PrintMore
open Go.Proofs.YtfcjpkkglffnmaaGreatDoor.Src
theorem zqx (c : UInt8) : Xp.f (c.toNat : Int) = some (isLet c) := by
 unfold Xp.f isLet;by_cases h : (c.toNat : Int) ≥ 97
 ·
  rw [if_pos h];have : decide (97 ≤ c.toNat) = true := decide_eq_true (by omega);rw [this, Bool.true_and];congr 1
  by_cases g : c.toNat ≤ 122
  ·
   rw [decide_eq_true g, decide_eq_true (by omega)]
  ·
   rw [decide_eq_false g, decide_eq_false (by omega)]
 ·
  rw [if_neg h];have : decide (97 ≤ c.toNat) = false := decide_eq_false (by omega);rw [this, Bool.false_and]
theorem digit_is (c : UInt8) : X8.f (c.toNat : Int) = some (isDig c) := by
 unfold X8.f isDig;by_cases h : (c.toNat : Int) ≥ 48
 ·
  rw [if_pos h];have : decide (48 ≤ c.toNat) = true := decide_eq_true (by omega);rw [this, Bool.true_and];congr 1
  by_cases g : c.toNat ≤ 57
  ·
   rw [decide_eq_true g, decide_eq_true (by omega)]
  ·
   rw [decide_eq_false g, decide_eq_false (by omega)]
 ·
  rw [if_neg h];have : decide (48 ≤ c.toNat) = false := decide_eq_false (by omega);rw [this, Bool.false_and]
theorem byte_beq (c : UInt8) (n : Nat) (h : n < 256) : ((c.toNat : Int) == (n : Int)) = (c == UInt8.ofNat n) := by
 by_cases e : c = UInt8.ofNat n
 ·
  subst e;simp;omega
 ·
  rw [beq_eq_false_iff_ne.2 e];rw [beq_eq_false_iff_ne];intro hh;apply e;apply UInt8.toNat_inj.1;simp;omega
theorem later_is (c : UInt8) : zar.f (c.toNat : Int) = some (isMore c) := by
 unfold zar.f isMore;rw [zqx, Option.bind_some];cases isLet c
 ·
  rw [if_neg (by decide), digit_is, Option.bind_some];cases isDig c
  ·
   rw [if_neg (by decide)];have := byte_beq c 95 (by decide);rw [show ((95 : Nat) : Int) = 95 from rfl] at this;rw [this];rfl
  ·
   rfl
 ·
  rfl
def lettersL : List UInt8 → Bool
 | [] => false
 | c :: r => isLet c && r.all isMore
theorem zm4 (c : UInt8) (r : List UInt8) : lettersL (c :: r) = (isLet c && r.all isMore) := rfl
theorem zpi (s : ByteArray) (hs : s.size ≤ 1152921504606846976) : ∀ (d i k : Nat), s.size - i = d → d < k → Zr.l0 k s (i : Int) = some ((s.data.toList.drop i).all isMore) := by
 have hl := list_size s;intro d;induction d with
 | zero =>
  intro i k hd hk;obtain ⟨k, rfl⟩ : ∃ m, k = m + 1 := ⟨k - 1, by omega⟩;simp only [Zr.l0];rw [if_neg (by omega), List.drop_eq_nil_of_le (by omega)];rfl
 | succ d ih =>
  intro i k hd hk;obtain ⟨k, rfl⟩ : ∃ m, k = m + 1 := ⟨k - 1, by omega⟩;have hlt : i < s.data.toList.length := by omega
  simp only [Zr.l0];rw [if_pos (by omega), if_pos (by omega), zk5 s i _ (List.getElem?_eq_getElem hlt), later_is, Option.bind_some, List.drop_eq_getElem_cons hlt, List.all_cons];cases isMore s.data.toList[i]
  ·
   rfl
  ·
   rw [if_pos rfl, wrapS (by omega) (by omega), show ((i : Int) + 1) = ((i + 1 : Nat) : Int) from by omega, ih (i + 1) k (by omega) (by omega), Bool.true_and]
theorem zmb (s : ByteArray) (hs : s.size ≤ 1152921504606846976) (k : Nat) (hk : s.size + 3 ≤ k) : Zr.f k s = some (lettersL s.data.toList) := by
 obtain ⟨k, rfl⟩ : ∃ m, k = m + 1 := ⟨k - 1, by omega⟩;have hl := list_size s;unfold Zr.f;rw [toList_data];by_cases h0 : s.data.toList = []
 ·
  rw [if_pos h0, h0];rfl
 ·
  rw [if_neg h0];obtain ⟨c, r, hcr⟩ := List.exists_cons_of_ne_nil h0;have hz : 0 < s.size := by rw [← hl, hcr]; exact Nat.succ_pos _
  have hb : bt s 0 = (c.toNat : Int) := zk5 s 0 c (by rw [hcr]; rfl);rw [if_pos (by omega), hb, zqx, Option.bind_some];have lp := zpi s hs (s.size - 1) 1 k rfl (by omega);rw [show ((1 : Nat) : Int) = 1 from rfl] at lp;simp only [Zr.j0];rw [lp, hcr, zm4, List.drop_one, List.tail_cons];cases isLet c <;> simp
def wordsL : List UInt8 := [32, 102, 117, 110, 32, 108, 101, 116, 32, 114, 101, 99, 32, 105, 110, 32, 105, 102, 32, 116, 104, 101, 110, 32, 101, 108, 115, 101, 32, 104, 97, 110, 100, 108, 101, 32, 119, 105, 116, 104, 32, 114, 101, 116, 117, 114, 110, 32, 101, 110, 100, 32, 100, 111, 32, 111, 112, 32, 116, 114, 117, 101, 32, 102, 97, 108, 115, 101, 32, 105, 110, 116, 32, 98, 111, 111, 108, 32]
def kwS (t : List UInt8) : Nat → Nat → Bool
 | 0, _ => false
 | d + 1, i => if i + t.length ≤ 78 then ((wordsL.drop i).take t.length == t || kwS t d (i + 1)) else false
theorem kwS_iff (t : List UInt8) : ∀ d i, 79 ≤ d + i → (kwS t d i = true ↔ ∃ j, i ≤ j ∧ j + t.length ≤ 78 ∧ (wordsL.drop j).take t.length = t) := by
 intro d;induction d with
 | zero =>
  intro i h;simp only [kwS, Bool.false_eq_true, false_iff];rintro ⟨j, h1, h2, _⟩;omega
 | succ d ih =>
  intro i h;unfold kwS;by_cases hi : i + t.length ≤ 78
  ·
   rw [if_pos hi, Bool.or_eq_true, beq_iff_eq, ih (i + 1) (by omega)];constructor
   ·
    rintro (h1 | ⟨j, h1, h2, h3⟩)
    ·
     exact ⟨i, Nat.le_refl _, hi, h1⟩
    ·
     exact ⟨j, by omega, h2, h3⟩
   ·
    rintro ⟨j, h1, h2, h3⟩;by_cases e : j = i
    ·
     subst e; exact .inl h3
    ·
     exact .inr ⟨j, by omega, h2, h3⟩
  ·
   rw [if_neg hi];simp only [Bool.false_eq_true, false_iff];rintro ⟨j, h1, h2, _⟩;omega
theorem zun : ∀ (i n : Fin 79), (let g := (wordsL.drop i.val).take (n.val + 2); !(g.length == n.val + 2 && (g.head? == some 32 && (g.getLast? == some 32 && lettersL (g.tail.dropLast)))) || kw (g.tail.dropLast)) = true := by decide +kernel
theorem kw_found : (kwL.all fun l => kwS (32 :: (l ++ [32])) 80 0 && lettersL l) = true := by decide +kernel
theorem kwS_kw (l : List UInt8) : (lettersL l && kwS (32 :: (l ++ [32])) 80 0) = kw l := by
 by_cases hk : kw l = true
 ·
  have := List.all_eq_true.1 kw_found l (by unfold kw at hk; exact List.contains_iff_mem.1 hk);rw [Bool.and_eq_true] at this;rw [hk, this.1, this.2];rfl
 ·
  rw [Bool.not_eq_true] at hk;rw [hk];rw [Bool.eq_false_iff];intro h;rw [Bool.and_eq_true, kwS_iff _ _ _ (by decide)] at h;obtain ⟨hlet, j, _, h2, h3⟩ := h;have hlen : (32 :: (l ++ [32])).length = l.length + 2 := by simp
  rw [hlen] at h2 h3;have w := zun ⟨j, by omega⟩ ⟨l.length, by omega⟩;simp only at w;rw [h3] at w;have e1 : (32 :: (l ++ [32])).tail.dropLast = l := by simp
  have e2 : (32 :: (l ++ [32])).getLast? = some 32 := by
   rw [← List.cons_append, List.getLast?_append]; rfl
  rw [e1, e2, hlen, hlet, hk] at w;simp at w
theorem zqy (s : ByteArray) (i j : Nat) : (s.extract i j).data.toList = (s.data.toList.drop i).take (j - i) := by
 simp
theorem zry (t : ByteArray) (hs : t.size ≤ 1000000000000000) : ∀ (d i k : Nat), d + i = 80 → i ≤ 80 → d < k → Yl.l0 k t (i : Int) = some (kwS t.data.toList d i) := by
 have hl := list_size t;intro d;induction d with
 | zero =>
  intro i k hd hi hk;obtain ⟨k, rfl⟩ : ∃ m, k = m + 1 := ⟨k - 1, by omega⟩;simp only [Yl.l0];rw [wrapS (by omega) (by omega), if_neg (by omega)];rfl
 | succ d ih =>
  intro i k hd hi hk;obtain ⟨k, rfl⟩ : ∃ m, k = m + 1 := ⟨k - 1, by omega⟩;simp only [Yl.l0];unfold kwS;rw [wrapS (by omega) (by omega), hl];by_cases h : i + t.size ≤ 78
  ·
   rw [if_pos (by omega), if_pos (by omega), if_pos (by omega), if_pos h, toList_data, toList_data, zqy, show ((i : Int) + (t.size : Int)).toNat - (i : Int).toNat = t.size from by omega, Int.toNat_natCast];change (if (wordsL.drop i).take t.size = t.data.toList then some true else Yl.l0 k t (wrap64 ((i : Int) + 1))) = _;by_cases e : (wordsL.drop i).take t.size = t.data.toList
   ·
    have e' : ((wordsL.drop i).take t.size == t.data.toList) = true := beq_iff_eq.2 e;rw [e', if_pos e];rfl
   ·
    have e' : ((wordsL.drop i).take t.size == t.data.toList) = false := beq_eq_false_iff_ne.2 e;rw [e', if_neg e, wrapS (by omega) (by omega), show ((i : Int) + 1) = ((i + 1 : Nat) : Int) from by omega, ih (i + 1) k (by omega) (by omega) (by omega), Bool.false_or]
  ·
   rw [if_neg (by omega), if_neg h]
theorem refKw_is (s : ByteArray) (hs : s.size ≤ 562949953421312) (k : Nat) (hk : s.size + 100 ≤ k) : Yl.f k s = some (kw s.data.toList) := by
 unfold Yl.f;rw [zmb s (by omega) k (by omega), Option.bind_some, ← kwS_kw];cases hL : lettersL s.data.toList
 ·
  rw [if_neg (by decide), Bool.false_and]
 ·
  have z1 : ((⟨#[32]⟩ : ByteArray) ++ s).size = 1 + s.size := by rw [ByteArray.size_append]; rfl
  have z2 : (((⟨#[32]⟩ : ByteArray) ++ s) ++ (⟨#[32]⟩ : ByteArray)).size = 1 + s.size + 1 := by rw [ByteArray.size_append, z1]; rfl
  rw [if_pos rfl, if_pos (by omega), if_pos (by rw [z1]; omega), Bool.true_and];have := zry (((⟨#[32]⟩ : ByteArray) ++ s) ++ (⟨#[32]⟩ : ByteArray)) (by rw [z2]; omega) 80 0 k rfl (by decide) (by omega);rw [show ((0 : Nat) : Int) = 0 from rfl] at this;rw [this];congr 2
set_option linter.unusedVariables false
set_option linter.unusedSimpArgs false
set_option maxHeartbeats 1000000
def refKids (a : Int) : Int := if 0 ≤ a ∧ a ≤ 10 then (kidsN a : Int) else -1
theorem zjb (k : Nat) (hk : 3 ≤ k) (a : Int) : zt.f k a = some (refKids a) := by
 have : ∃ c, zt.f k a = some c := by
  obtain ⟨k, rfl⟩ : ∃ n, k = n + 3 := ⟨k - 3, by omega⟩;have hc : a = 0 ∨ a = 1 ∨ a = 2 ∨ a = 3 ∨ a = 4 ∨ a = 5 ∨ a = 6 ∨ a = 7 ∨ a = 8 ∨ a = 9 ∨ a = 10 ∨ (¬ a = 0 ∧ ¬ a = 1 ∧ ¬ a = 2 ∧ ¬ a = 3 ∧ ¬ a = 4 ∧ ¬ a = 5 ∧ ¬ a = 6 ∧ ¬ a = 7 ∧ ¬ a = 8 ∧ ¬ a = 9 ∧ ¬ a = 10) := by omega
  rcases hc with rfl | rfl | rfl | rfl | rfl | rfl | rfl | rfl | rfl | rfl | rfl | ⟨n0, n1, n2, n3, n4, n5, n6, n7, n8, n9, n10⟩
  ·
   exact ⟨_, rfl⟩
  ·
   exact ⟨_, rfl⟩
  ·
   exact ⟨_, rfl⟩
  ·
   exact ⟨_, rfl⟩
  ·
   exact ⟨_, rfl⟩
  ·
   exact ⟨_, rfl⟩
  ·
   exact ⟨_, rfl⟩
  ·
   exact ⟨_, rfl⟩
  ·
   exact ⟨_, rfl⟩
  ·
   exact ⟨_, rfl⟩
  ·
   exact ⟨_, rfl⟩
  ·
   have e : ∀ n : Int, (a == n) = decide (a = n) := fun n => by by_cases q : a = n <;> simp [q]
   simp only [zt.f, zt.j0, zt.j1, zt.j2, e, n0, n1, n2, n3, n4, n5, n6, n7, n8, n9, n10, decide_false, Bool.false_eq_true, if_false];exact ⟨_, rfl⟩
 obtain ⟨c, hc⟩ := this;rw [hc, Xm hc];rfl
theorem kids_out {a : Int} (h : ¬ (0 ≤ a ∧ a ≤ 10)) : kidsN a = 0 := by
 unfold kidsN;rw [if_neg (by omega), if_neg (by omega), if_neg (by omega)]
theorem zuo (L : List S44) (a : Int) (h0 : 0 ≤ a) (h1 : a < (L.length : Int)) (hl : L.length ≤ 512) : goB (Y4.f L.length L) (kidsOf (zl L a)).reverse a = some (beginS L a) := by
 have := zgy L a (L.length + 1) h0 h1 (by omega) (by omega);rwa [Y4.f, if_pos h0, if_pos h1] at this
theorem zpj (l : List S44) (b : Int) (h0 : 0 ≤ b) (h1 : b + 1 < (l.length : Int)) (hl : l.length ≤ 512) : Y4.f l.length l b = some (beginS l b) := by
 obtain ⟨r, hr, _⟩ := zht l b.toNat b l.length h0 (by omega) rfl (by omega) (by omega);have := zfc (Y4.mono l b) (Nat.le_succ l.length) hr;rw [zgy l b (l.length + 1) h0 (by omega) (by omega) (by omega)] at this;rw [hr, ← this]
theorem zup (l : List S44) (hl : l.length ≤ 512) : ∀ (n : Nat) (a : Int) (k : Nat), 0 ≤ a → a < (l.length : Int) → a.toNat = n → 12 * n + 16 ≤ k → Zm.f k l a = some (beginS l a) := by
 intro n;induction n using Nat.strongRecOn with
 | _ n ih =>
  intro a k h0 h1 hn hk;obtain ⟨k, rfl⟩ : ∃ m, k = m + 1 := ⟨k - 1, by omega⟩;rw [Zm.f, if_pos h0, if_pos h1, zjb k (by omega), Option.bind_some];have hx := zuo l a h0 h1 hl;generalize hxx : zl l a = x at *;have loop : ∀ (c : Nat), c ≤ 3 → ∀ (p : Int) (K : Nat), 0 ≤ p → p ≤ a → 12 * n + 4 + 3 * c ≤ K → Zm.l0 K l a p (c : Int) = goB (Y4.f l.length l) ([x.f1, x.f2, x.f3].take c).reverse p := by
   intro c;induction c with
   | zero =>
    intro _ p K p0 p1 hK;obtain ⟨K, rfl⟩ : ∃ m, K = m + 1 := ⟨K - 1, by omega⟩;rw [Zm.l0, if_neg (by omega)];rfl
   | succ c ihc =>
    intro hc p K p0 p1 hK;obtain ⟨K, rfl⟩ : ∃ m, K = m + 3 := ⟨K - 3, by omega⟩;obtain ⟨ch, hch, hl0⟩ : ∃ ch, ([x.f1, x.f2, x.f3].take (c + 1)).reverse = ch :: ([x.f1, x.f2, x.f3].take c).reverse ∧ Zm.l0 (K + 3) l a p ((c + 1 : Nat) : Int) = Zm.j1 (K + 2) l a p ((c + 1 : Nat) : Int) ch := by
     match c, hc with
     | 0, _ => exact ⟨x.f1, rfl, by rw [Zm.l0, if_pos (by omega), if_pos h0, if_pos h1, if_neg (by omega), if_neg (by omega), hxx]⟩
     | 1, _ => exact ⟨x.f2, rfl, by rw [Zm.l0, if_pos (by omega), if_pos h0, if_pos h1, if_pos (by omega), hxx]⟩
     | 2, _ => exact ⟨x.f3, rfl, by rw [Zm.l0, if_pos (by omega), if_pos h0, if_pos h1, if_neg (by omega), if_pos (by omega), hxx]⟩
    have hw : wrap64 (p - 1) = p - 1 := by unfold wrap64; omega
    rw [hl0, hch, Zm.j1, goB, hw];by_cases e : ch = p - 1
    ·
     rw [if_pos e, Zm.j2];by_cases g : p - 1 < 0
     ·
      rw [if_pos g, if_pos (decide_eq_true (by omega))]
     ·
      rw [if_neg g, if_neg (by simp; omega), if_pos e, e, ih (p - 1).toNat (by omega) (p - 1) K (by omega) (by omega) rfl (by omega), zpj l (p - 1) (by omega) (by omega) hl, Option.bind_some, Option.bind_some];by_cases g2 : beginS l (p - 1) < 0
      ·
       rw [if_pos g2, if_pos g2]
      ·
       rw [if_neg g2, if_neg g2, show wrap64 (((c + 1 : Nat) : Int) - 1) = (c : Int) from by rw [wrapS (by omega) (by omega)]; omega];have := zcl l (p - 1) (by omega) (by omega) (by omega);exact ihc (by omega) (beginS l (p - 1)) K (by omega) (by omega) (by omega)
    ·
     rw [if_neg e, Zm.j2, if_pos rfl];by_cases g : p - 1 < 0
     ·
      rw [if_pos g]
     ·
      rw [if_neg g, if_neg e]
  unfold refKids;by_cases hr : 0 ≤ x.f0 ∧ x.f0 ≤ 10
  ·
   rw [if_pos hr, loop (kidsN x.f0) (zcj _) a k h0 (Int.le_refl _) (by have := zcj x.f0; omega)];exact hx
  ·
   rw [if_neg hr];obtain ⟨k, rfl⟩ : ∃ m, k = m + 1 := ⟨k - 1, by omega⟩;rw [Zm.l0, if_neg (by omega)];rw [kidsOf, kids_out hr] at hx;exact hx
theorem zuq (s : ByteArray) : s.data.toList.length = s.size := by rw [Array.length_toList]; rfl
theorem zmc (s : ByteArray) (k : Nat) (hk : 200 ≤ k) : xh.f k s = some (nm s.data.toList) := by
 unfold xh.f;have hs := zuq s;by_cases h : s.size ≤ 16
 ·
  rw [if_pos (by omega), zmb s (by omega) k (by omega), refKw_is s (by omega) k (by omega)];simp only [Option.bind_some];unfold nm;cases hl : s.data.toList with
  | nil => simp [lettersL]
  | cons c r =>
   rw [hl] at hs;simp only [lettersL, List.length_cons] at *;have key : ∀ (u v w : Bool) (n : Nat), n + 1 ≤ 16 → ((if (u && v) = true then some (!w) else some false) : Option Bool) = some (decide (n < 16) && (u && (v && !w))) := by
    intro u v w n h;cases u <;> cases v <;> simp
    omega
   exact key _ _ _ _ (by omega)
 ·
  rw [if_neg (by omega)];unfold nm;cases hl : s.data.toList with
  | nil => rfl
  | cons c r =>
   rw [hl] at hs;simp only [List.length_cons] at *;simp;omega
theorem zqz (os : List S42) (hl : os.length ≤ 1000) : ∀ (d i k : Nat), os.length - i = d → i ≤ os.length → d + 250 ≤ k → Zz.l0 k os (i : Int) = some ((os.drop i).all opMayS) := by
 intro d;induction d with
 | zero =>
  intro i k hd hi hk;obtain ⟨k, rfl⟩ : ∃ m, k = m + 1 := ⟨k - 1, by omega⟩;rw [Zz.l0, if_neg (by omega), List.drop_eq_nil_of_le (by omega)];rfl
 | succ d ih =>
  intro i k hd hi hk;obtain ⟨k, rfl⟩ : ∃ m, k = m + 1 := ⟨k - 1, by omega⟩;have hlt : i < os.length := by omega
  have hrd : Zp os (i : Int) = os[i] := by
   rw [Zp, Int.toNat_natCast, List.getD_eq_getElem?_getD, List.getElem?_eq_getElem hlt];rfl
  rw [Zz.l0, if_pos (by omega), if_pos (by omega), hrd, zmc _ k (by omega), List.drop_eq_getElem_cons hlt, List.all_cons, show wrap64 ((i : Int) + 1) = ((i + 1 : Nat) : Int) from by rw [wrapS (by omega) (by omega)]; omega];have hih := ih (i + 1) k (by omega) (by omega) (by omega);rw [hih];have hb : ∀ a : Int, Y9.f a = some (a == 0 || a == 1) := fun a => by
   unfold Y9.f;by_cases h : a = 0 <;> simp [h]
  simp only [hb, Option.bind_some, opMayS];cases nm os[i].f0.data.toList <;> cases (os[i].f1 == 0 || os[i].f1 == 1) <;> cases (os[i].f2 == 0 || os[i].f2 == 1) <;> simp
theorem znn (os : List S42) (k : Nat) (hk : 300 ≤ k) : Zz.f k os = some (opsMayS os) := by
 unfold Zz.f opsMayS;by_cases h : os.length ≤ 4
 ·
  rw [if_neg (by omega)];have := zqz os (by omega) os.length 0 k rfl (Nat.zero_le _) (by omega);rw [show ((0 : Nat) : Int) = 0 from rfl] at this;rw [this];simp [h]
 ·
  rw [if_pos (by omega)];simp [h]
def boundS (x y : S44) : Bool × S44 :=
 if x.f0 = 0 ∨ x.f0 = 9 then (nm x.f5.data.toList, y)
 else if x.f0 = 3 ∨ x.f0 = 5 then (nm x.f6.data.toList, { y with f6 := x.f6 })
 else if x.f0 = 6 then (nm x.f6.data.toList && nm x.f7.data.toList, { y with f6 := x.f6, f7 := x.f7 })
 else if x.f0 = 10 then (nm x.f5.data.toList && (nm x.f6.data.toList && (nm x.f7.data.toList && nm x.f8.data.toList)), { y with f6 := x.f6, f7 := x.f7, f8 := x.f8 })
 else (true, y)
theorem zq0 (x y : S44) (k : Nat) (hk : 300 ≤ k) : xx.f k x.f0 x.f1 x.f2 x.f3 x.f4 x.f5 x.f6 x.f7 x.f8 x.f9 y.f0 y.f1 y.f2 y.f3 y.f4 y.f5 y.f6 y.f7 y.f8 y.f9 =
  some ((boundS x y).1, (boundS x y).2.f0, (boundS x y).2.f1, (boundS x y).2.f2, (boundS x y).2.f3, (boundS x y).2.f4, (boundS x y).2.f5, (boundS x y).2.f6, (boundS x y).2.f7, (boundS x y).2.f8, (boundS x y).2.f9) := by
 obtain ⟨k, rfl⟩ : ∃ m, k = m + 2 := ⟨k - 2, by omega⟩;have hN : ∀ (s : ByteArray) (j : Nat), j = k + 1 ∨ j = k → xh.f j s = some (nm s.data.toList) := fun s j hj => zmc s j (by omega)
 unfold xx.f;unfold boundS;simp only [xx.j0, xx.j1, hN _ _ (Or.inl rfl), hN _ _ (Or.inr rfl), Option.bind_some];by_cases h0 : x.f0 = 0
 ·
  simp [h0]
 ·
  by_cases h9 : x.f0 = 9
  ·
   simp [h9]
  ·
   by_cases h3 : x.f0 = 3
   ·
    simp [h3]
   ·
    by_cases h5 : x.f0 = 5
    ·
     simp [h5]
    ·
     by_cases h6 : x.f0 = 6
     ·
      simp [h6];cases nm x.f6.data.toList <;> simp
     ·
      by_cases h10 : x.f0 = 10
      ·
       simp [h10];cases nm x.f5.data.toList <;> cases nm x.f6.data.toList <;> cases nm x.f7.data.toList <;> simp
      ·
       simp [h0, h9, h3, h5, h6, h10]
def fieldsS (x : S44) (named : Bool) : Bool :=
 (if named = true then (boundS x (refY x true)).1 else true) && (decide (refKids x.f0 ≥ 0) && (refEq x (if named = true then (boundS x (refY x true)).2 else refY x false) && (decide (x.f9 ≥ 0) && decide (x.f9 ≤ 4096))))
theorem zpk (x : S44) (named : Bool) (k : Nat) (hk : 300 ≤ k) : xu.f k x.f0 x.f1 x.f2 x.f3 x.f4 x.f5 x.f6 x.f7 x.f8 x.f9 named = some (fieldsS x named) := by
 have hx : (⟨x.f0, x.f1, x.f2, x.f3, x.f4, x.f5, x.f6, x.f7, x.f8, x.f9⟩ : S44) = x := rfl;unfold xu.f fieldsS;rw [zjb k (by omega), Option.bind_some];simp only [hx];cases named
 ·
  rw [if_neg (by decide), Option.bind_some, if_pos rfl, if_neg (by decide), if_neg (by decide), Bool.true_and]
 ·
  rw [if_pos rfl, zq0 x (refY x true) k hk, Option.bind_some];simp only [if_true];cases (boundS x (refY x true)).1
  ·
   rfl
  ·
   rfl
def numsS (x : S44) : Bool := if x.f0 = 1 then decide (x.f4 ≥ 0) && decide (x.f4 ≤ 1073741823) else if x.f0 = 2 then x.f4 == 0 || x.f4 == 1 else if x.f0 = 8 then decide (x.f4 ≥ 0) && decide (x.f4 ≤ 5) else true
theorem zrz (x : S44) : Vy.f x.f0 x.f1 x.f2 x.f3 x.f4 x.f5 x.f6 x.f7 x.f8 x.f9 = some (numsS x) := by
 unfold Vy.f numsS;by_cases h1 : x.f0 = 1
 ·
  by_cases h4 : x.f4 ≥ 0 <;> simp [h1, h4]
 ·
  by_cases h2 : x.f0 = 2
  ·
   by_cases h4 : x.f4 = 0 <;> simp [h2, h4]
  ·
   by_cases h8 : x.f0 = 8
   ·
    by_cases h4 : x.f4 ≥ 0 <;> simp [h8, h4]
   ·
    simp [h1, h2, h8]
theorem zq1 (l : List UInt8) : (l == []) = l.isEmpty := by cases l <;> rfl
theorem zur : (⟨#[]⟩ : ByteArray).toList = [] := by rw [toList_data]
theorem may_ref (x : S44) (named : Bool) : (fieldsS x named && numsS x) = mayS x named := by
 obtain ⟨f0, f1, f2, f3, f4, f5, f6, f7, f8, f9⟩ := x;have hcs : f0 = 0 ∨ f0 = 1 ∨ f0 = 2 ∨ f0 = 3 ∨ f0 = 4 ∨ f0 = 5 ∨ f0 = 6 ∨ f0 = 7 ∨ f0 = 8 ∨ f0 = 9 ∨ f0 = 10 ∨ (¬ f0 = 0 ∧ ¬ f0 = 1 ∧ ¬ f0 = 2 ∧ ¬ f0 = 3 ∧ ¬ f0 = 4 ∧ ¬ f0 = 5 ∧ ¬ f0 = 6 ∧ ¬ f0 = 7 ∧ ¬ f0 = 8 ∧ ¬ f0 = 9 ∧ ¬ f0 = 10) := by omega
 rcases hcs with rfl | rfl | rfl | rfl | rfl | rfl | rfl | rfl | rfl | rfl | rfl | ⟨n0, n1, n2, n3, n4, n5, n6, n7, n8, n9, n10⟩
 case' inr.inr.inr.inr.inr.inr.inr.inr.inr.inr.inr =>
  have hn : ¬ (0 ≤ f0 ∧ f0 ≤ 10) := by omega
  have l : fieldsS ⟨f0, f1, f2, f3, f4, f5, f6, f7, f8, f9⟩ named = false := by
   unfold fieldsS refKids;simp [hn]
  have r : mayS ⟨f0, f1, f2, f3, f4, f5, f6, f7, f8, f9⟩ named = false := by
   unfold mayS;by_cases q : 0 ≤ f0
   ·
    simp [q, show ¬ f0 ≤ 10 from by omega]
   ·
    simp [q]
  rw [l, r];rfl
 all_goals
  cases named;all_goals
   simp [fieldsS, numsS, mayS, refKids, kidsN, boundS, refY, refEq, mostN, namesOf, noNames, noKids, noNum, bareNode, zq1, zur];try (rw [Bool.eq_iff_iff]; simp; grind)
theorem zmd (l : List S44) (named : Bool) (hl : l.length ≤ 512) (h1 : 1 ≤ l.length) : ∀ (d i k : Nat), l.length - i = d → i ≤ l.length → d + 6500 ≤ k →
  Zo.l0 k l named (i : Int) = some ((l.drop i).all (fun x => mayS x named) && (beginS l ((l.length : Int) - 1) == 0)) := by
 intro d;induction d with
 | zero =>
  intro i k hd hi hk;obtain ⟨k, rfl⟩ : ∃ m, k = m + 1 := ⟨k - 1, by omega⟩;rw [Zo.l0, if_neg (by omega), show wrap64 ((l.length : Int) - 1) = (l.length : Int) - 1 from wrapS (by omega) (by omega), zup l hl (l.length - 1) _ k (by omega) (by omega) (by omega) (by omega), List.drop_eq_nil_of_le (by omega)];simp
 | succ d ih =>
  intro i k hd hi hk;obtain ⟨k, rfl⟩ : ∃ m, k = m + 1 := ⟨k - 1, by omega⟩;have hlt : i < l.length := by omega
  rw [Zo.l0, if_pos (by omega), if_pos (by omega), zne l i hlt, zpk l[i] named k (by omega), zrz, List.drop_eq_getElem_cons hlt, List.all_cons, show wrap64 ((i : Int) + 1) = ((i + 1 : Nat) : Int) from by rw [wrapS (by omega) (by omega)]; omega, ih (i + 1) k (by omega) (by omega) (by omega), ← may_ref l[i] named];simp only [Option.bind_some];cases fieldsS l[i] named
  ·
   simp
  ·
   cases numsS l[i]
   ·
    simp
   ·
    simp
theorem zjc (l : List S44) (named : Bool) (k : Nat) (hk : 7100 ≤ k) : Zo.f k l named = some (shapedS l named) := by
 obtain ⟨k, rfl⟩ : ∃ m, k = m + 1 := ⟨k - 1, by omega⟩;unfold Zo.f shapedS;by_cases h1 : (l.length : Int) < 1
 ·
  rw [if_pos h1, Zo.j0, if_pos rfl];simp [show ¬ 1 ≤ l.length by omega]
 ·
  rw [if_neg h1, Zo.j0];by_cases h2 : (l.length : Int) > 512
  ·
   rw [if_pos (by simpa using h2)];simp [show ¬ l.length ≤ 512 by omega]
  ·
   rw [if_neg (by simpa using h2)];have := zmd l named (by omega) (by omega) l.length 0 k rfl (Nat.zero_le _) (by omega);rw [show ((0 : Nat) : Int) = 0 from rfl] at this;rw [this];simp [show 1 ≤ l.length by omega, show l.length ≤ 512 by omega]
theorem zus (os : List S42) (l : List S44) (k : Nat) (hk : 7100 ≤ k) : V7.f k os l = some (treeMayS os l) := by
 unfold V7.f treeMayS;rw [znn os k (by omega), zjc l true k hk];cases opsMayS os <;> simp
set_option maxHeartbeats 2000000
theorem zju : ∀ (os : List S42) (seen : List ByteArray), twiceGo seen os = true ↔ ∃ i, i < os.length ∧ ((∃ s ∈ seen, s.toList = nmOf os i) ∨ ∃ j, j < i ∧ nmOf os j = nmOf os i)
 | [], seen => by simp [twiceGo]
 | o :: os, seen => by
  rw [twiceGo];by_cases h : (seen.any fun s => s.toList == o.f0.toList) = true
  ·
   rw [if_pos h];simp only [true_iff];obtain ⟨s, hs, he⟩ := List.any_eq_true.1 h;exact ⟨0, by simp, .inl ⟨s, hs, beq_iff_eq.1 he⟩⟩
  ·
   rw [if_neg h, zju os];constructor
   ·
    rintro ⟨i, hi, (⟨s, hs, he⟩ | ⟨j, hj, he⟩)⟩
    ·
     rcases List.mem_append.1 hs with hs | hs
     ·
      exact ⟨i + 1, by simpa using hi, .inl ⟨s, hs, he⟩⟩
     ·
      rw [List.mem_singleton.1 hs] at he;exact ⟨i + 1, by simpa using hi, .inr ⟨0, by omega, he⟩⟩
    ·
     exact ⟨i + 1, by simpa using hi, .inr ⟨j + 1, by omega, he⟩⟩
   ·
    rintro ⟨i, hi, h2⟩;cases i with
    | zero =>
     rcases h2 with ⟨s, hs, he⟩ | ⟨j, hj, _⟩
     ·
      exact absurd (List.any_eq_true (p := fun s => s.toList == o.f0.toList) |>.2 ⟨s, hs, beq_iff_eq.2 he⟩) h
     ·
      omega
    | succ i =>
     have hi2 : i < os.length := by simpa using hi
     rcases h2 with ⟨s, hs, he⟩ | ⟨j, hj, he⟩
     ·
      exact ⟨i, hi2, .inl ⟨s, List.mem_append_left _ hs, he⟩⟩
     ·
      cases j with
      | zero => exact ⟨i, hi2, .inl ⟨o.f0, List.mem_append_right _ (List.mem_singleton.2 rfl), he⟩⟩
      | succ j => exact ⟨i, hi2, .inr ⟨j, by omega, he⟩⟩
theorem zno (os : List S42) : dupB os = twiceGo [] os := by
 cases h : twiceGo [] os
 ·
  refine zph (fun i j hi hj he => ?_);have := (zju os []).2 ⟨i, hi, .inr ⟨j, hj, he.symm⟩⟩;rw [h] at this;cases this
 ·
  obtain ⟨i, hi, h2⟩ := (zju os []).1 h;rcases h2 with ⟨s, hs, _⟩ | ⟨j, hj, he⟩
  ·
   cases hs
  ·
   exact zma hi hj he.symm
theorem zq3 (os : List S42) (l : List S44) (k : Nat) (hk : 9000 ≤ k) : ∃ r, Zy.f k os l = some r ∧ Xr.f k os l = some r := by
 rw [res_Q k (by omega), resQ];unfold Xr.f;rw [zus os l k (by omega), Option.bind_some, zno];cases ht : treeMayS os l
 ·
  exact ⟨_, rfl, rfl⟩
 ·
  have ht2 := ht;simp only [treeMayS, Bool.and_eq_true] at ht2;obtain ⟨h4, hsz⟩ := zhb os ht2.1;obtain ⟨h1, h512, hall, hb⟩ := zfa l true ht2.2;rw [if_pos (rfl : true = true), if_pos ⟨h4, h1, h512, hsz⟩, if_pos (rfl : true = true), if_pos (show os.length ≤ 4 ∧ 1 ≤ l.length ∧ l.length ≤ 512 from ⟨h4, h1, h512⟩)];cases htw : twiceGo [] os
  ·
   rw [if_neg (by simp), if_neg (by simp)];have hb' : beginS l (((l.length - 1 : Nat)) : Int) = ((0 : Nat) : Int) := by rw [show (((l.length - 1 : Nat)) : Int) = (l.length : Int) - 1 by omega, hb]; rfl
   obtain ⟨r, ns', ns2', c', a', e1, e2, ⟨d1, d2, d3, d4⟩, s1, s2, _, s4⟩ := walk_sim l os hall h512 h4 (l.length - 1) (l.length - 1) k l l [] 0 0 rfl (by omega) hb' rfl (fun _ _ _ => rfl) rfl (fun _ _ _ => rfl) (by simp; omega) (by omega);rw [show (((l.length - 1 : Nat)) : Int) = (l.length : Int) - 1 by omega] at e1 e2;rw [e1, e2, Option.bind_some, Option.bind_some];have s4 := s4 rfl;cases r with
   | none =>
    obtain ⟨rfl, rfl, s5⟩ := s4;have he : ns2' = ns' := by
     apply List.ext_getElem?;intro i;by_cases hi : i < l.length
     ·
      exact s5 i (Nat.zero_le _) (by omega)
     ·
      rw [List.getElem?_eq_none (by omega), List.getElem?_eq_none (by omega)]
    subst he;exact ⟨_, rfl, rfl⟩
   | some e =>
    obtain ⟨ea, ec⟩ := e;obtain ⟨rfl, rfl⟩ := s4;have hec := (d4 _ _ rfl).2;have h0 : ¬ c' = 0 := by omega
    refine ⟨([], [], a', c'), ?_, ?_⟩
    ·
     show (if c' = 0 then none else some ([], [], a', c')) = _;rw [if_neg h0]
    ·
     show (if c' = 0 then _ else some ([], [], a', c')) = _;rw [if_neg h0]
  ·
   exact ⟨_, rfl, rfl⟩
theorem zq4 (os : List S42) (l : List S44) (hall : ∀ x ∈ l, mayS x false = true) (hl : l.length ≤ 512) : ∀ (n a : Nat) (names : Int) (b : Nat), a = n → a < l.length → beginS l (a : Int) = (b : Int) → 0 ≤ names → names + 2 * (a : Int) ≤ 3000 →
  ∃ v : Bool, (∀ k, a < k → within.f k (os.length : Int) l (a : Int) names = some v) ∧ ∀ k, 2 * a + 2 ≤ k → yt.f k os l (a : Int) names = some v := by
 intro n;induction n using Nat.strongRecOn with
 | _ n ih =>
  intro a names b hn ha hb hn0 hn1;subst hn;have hr := zcl l (a : Int) (by omega) (by omega) (by omega);rw [hb] at hr;have hx : l[a]? = some l[a] := List.getElem?_eq_getElem ha;have hmay := hall l[a] (List.getElem_mem ha);have hs := zgb l hl a b l[a] hx hb;generalize l[a] = x at *;have hq : 0 ≤ x.f0 ∧ x.f0 ≤ 10 := by
   simp only [mayS, Bool.and_eq_true, decide_eq_true_eq] at hmay;exact ⟨hmay.1, hmay.2.1⟩
  have w1 : wrap64 (names + 1) = names + 1 := by unfold wrap64; omega
  have w2 : wrap64 (names + 2) = names + 2 := by unfold wrap64; omega
  have kid : ∀ (cs : List Int) (b2 : Nat), Segs l cs b2 a → ∀ c ∈ cs, ∀ m : Int, names ≤ m → m ≤ names + 2 → ∃ v : Bool, (∀ k, a ≤ k → within.f k (os.length : Int) l c m = some v) ∧ ∀ k, 2 * a ≤ k → yt.f k os l c m = some v := by
   intro cs;induction cs with
   | nil => intro b2 _ c hc; cases hc
   | cons c cs ihc =>
    rintro b2 ⟨cn, rfl, h1, h2, h3, h4⟩ d hd m hm0 hm1;rcases List.mem_cons.1 hd with rfl | hd
    ·
     obtain ⟨v, v1, v2⟩ := ih cn h2 cn m b2 rfl (by omega) h3 (by omega) (by omega);exact ⟨v, fun k hk => v1 k (by omega), fun k hk => v2 k (by omega)⟩
    ·
     exact ihc (cn + 1) h4 d hd m hm0 hm1
  have kid := kid (kidsOf x) b hs;have g1 : ∀ k, within.f (k + 1) (os.length : Int) l (a : Int) names = (Yt.f x.f0).bind fun nb => if nb = true ∧ (x.f4 < 0 ∨ x.f4 ≥ (if x.f0 = 0 then names else (os.length : Int))) then some false else goW (within.f k (os.length : Int) l) x names (kidsOf x) 0 := fun k => by
   rw [within.f, if_pos ⟨by omega, by omega, hn0, by omega⟩, rd_some l a x hx]
  have hrd := rd_some l a x hx;obtain ⟨f0, f1, f2, f3, f4, f5, f6, f7, f8, f9⟩ := x;have hf : f0 = 0 ∨ f0 = 1 ∨ f0 = 2 ∨ f0 = 3 ∨ f0 = 4 ∨ f0 = 5 ∨ f0 = 6 ∨ f0 = 7 ∨ f0 = 8 ∨ f0 = 9 ∨ f0 = 10 := by
   have h1 : 0 ≤ f0 := hq.1;have h2 : f0 ≤ 10 := hq.2;omega
  clear hs hmay hb hr hq ih;have a0 : (0 : Int) ≤ (a : Int) := by omega
  have a1 : (a : Int) < (l.length : Int) := by omega
  have one : ∀ {k : Nat}, a < k → ∃ m, k = m + 1 ∧ a ≤ m := fun {k} h => ⟨k - 1, by omega, by omega⟩
  have two : ∀ {k : Nat}, 2 * a + 2 ≤ k → ∃ m, k = m + 1 + 1 ∧ 2 * a ≤ m := fun {k} h => ⟨k - 2, by omega, by omega⟩
  rcases hf with rfl | rfl | rfl | rfl | rfl | rfl | rfl | rfl | rfl | rfl | rfl
  ·
   refine ⟨decide (0 ≤ f4) && decide (f4 < names), fun k hk => ?_, fun k hk => ?_⟩
   ·
    obtain ⟨k, rfl, hk2⟩ := one hk;rw [g1];simp [Yt.f, kidsOf, kidsN, goW];by_cases h1 : 0 ≤ f4 <;> by_cases h2 : f4 < names <;> simp [h1, h2] <;> omega
   ·
    obtain ⟨k, rfl, hk2⟩ := two hk;rw [yt.f, if_pos a0, if_pos a1, hrd];by_cases h1 : 0 ≤ f4 <;> by_cases h2 : f4 < names <;> simp [h1, h2]
  ·
   refine ⟨true, fun k hk => ?_, fun k hk => ?_⟩
   ·
    obtain ⟨k, rfl, hk2⟩ := one hk;rw [g1];simp [Yt.f, kidsOf, kidsN, goW]
   ·
    obtain ⟨k, rfl, hk2⟩ := two hk;rw [yt.f, if_pos a0, if_pos a1, hrd];simp [yt.j0]
  ·
   refine ⟨true, fun k hk => ?_, fun k hk => ?_⟩
   ·
    obtain ⟨k, rfl, hk2⟩ := one hk;rw [g1];simp [Yt.f, kidsOf, kidsN, goW]
   ·
    obtain ⟨k, rfl, hk2⟩ := two hk;rw [yt.f, if_pos a0, if_pos a1, hrd];simp [yt.j0]
  ·
   obtain ⟨b0, p0, r0⟩ := kid f1 (by simp [kidsOf, kidsN]) (names + 1) (by omega) (by omega);refine ⟨b0, fun k hk => ?_, fun k hk => ?_⟩
   ·
    obtain ⟨k, rfl, hk2⟩ := one hk;rw [g1];have hz : names + 0 = names := by omega
    have s0 := p0 k hk2;cases b0 <;> simp_all [Yt.f, kidsOf, kidsN, goW, bndOf, bindsOf]
   ·
    obtain ⟨k, rfl, hk2⟩ := two hk;rw [yt.f, if_pos a0, if_pos a1, hrd];have s0 := r0 k hk2;cases b0 <;> simp_all [yt.j0]
  ·
   obtain ⟨b0, p0, r0⟩ := kid f1 (by simp [kidsOf, kidsN]) names (by omega) (by omega);obtain ⟨b1, p1, r1⟩ := kid f2 (by simp [kidsOf, kidsN]) names (by omega) (by omega);refine ⟨b0 && b1, fun k hk => ?_, fun k hk => ?_⟩
   ·
    obtain ⟨k, rfl, hk2⟩ := one hk;rw [g1];have hz : names + 0 = names := by omega
    have s0 := p0 k hk2;have s1 := p1 k hk2;cases b0 <;> cases b1 <;> simp_all [Yt.f, kidsOf, kidsN, goW, bndOf, bindsOf]
   ·
    obtain ⟨k, rfl, hk2⟩ := two hk;rw [yt.f, if_pos a0, if_pos a1, hrd];have s0 := r0 k hk2;have s1 := r1 k hk2;cases b0 <;> cases b1 <;> simp_all [yt.j0]
  ·
   obtain ⟨b0, p0, r0⟩ := kid f1 (by simp [kidsOf, kidsN]) names (by omega) (by omega);obtain ⟨b1, p1, r1⟩ := kid f2 (by simp [kidsOf, kidsN]) (names + 1) (by omega) (by omega);refine ⟨b0 && b1, fun k hk => ?_, fun k hk => ?_⟩
   ·
    obtain ⟨k, rfl, hk2⟩ := one hk;rw [g1];have hz : names + 0 = names := by omega
    have s0 := p0 k hk2;have s1 := p1 k hk2;cases b0 <;> cases b1 <;> simp_all [Yt.f, kidsOf, kidsN, goW, bndOf, bindsOf]
   ·
    obtain ⟨k, rfl, hk2⟩ := two hk;rw [yt.f, if_pos a0, if_pos a1, hrd];have s0 := r0 k hk2;have s1 := r1 k hk2;cases b0 <;> cases b1 <;> simp_all [yt.j0]
  ·
   obtain ⟨b0, p0, r0⟩ := kid f1 (by simp [kidsOf, kidsN]) (names + 2) (by omega) (by omega);obtain ⟨b1, p1, r1⟩ := kid f2 (by simp [kidsOf, kidsN]) (names + 1) (by omega) (by omega);refine ⟨b0 && b1, fun k hk => ?_, fun k hk => ?_⟩
   ·
    obtain ⟨k, rfl, hk2⟩ := one hk;rw [g1];have hz : names + 0 = names := by omega
    have s0 := p0 k hk2;have s1 := p1 k hk2;cases b0 <;> cases b1 <;> simp_all [Yt.f, kidsOf, kidsN, goW, bndOf, bindsOf]
   ·
    obtain ⟨k, rfl, hk2⟩ := two hk;rw [yt.f, if_pos a0, if_pos a1, hrd];have s0 := r0 k hk2;have s1 := r1 k hk2;cases b0 <;> cases b1 <;> simp_all [yt.j0]
  ·
   obtain ⟨b0, p0, r0⟩ := kid f1 (by simp [kidsOf, kidsN]) names (by omega) (by omega);obtain ⟨b1, p1, r1⟩ := kid f2 (by simp [kidsOf, kidsN]) names (by omega) (by omega);obtain ⟨b2, p2, r2⟩ := kid f3 (by simp [kidsOf, kidsN]) names (by omega) (by omega);refine ⟨b0 && b1 && b2, fun k hk => ?_, fun k hk => ?_⟩
   ·
    obtain ⟨k, rfl, hk2⟩ := one hk;rw [g1];have hz : names + 0 = names := by omega
    have s0 := p0 k hk2;have s1 := p1 k hk2;have s2 := p2 k hk2;cases b0 <;> cases b1 <;> cases b2 <;> simp_all [Yt.f, kidsOf, kidsN, goW, bndOf, bindsOf]
   ·
    obtain ⟨k, rfl, hk2⟩ := two hk;rw [yt.f, if_pos a0, if_pos a1, hrd];have s0 := r0 k hk2;have s1 := r1 k hk2;have s2 := r2 k hk2;cases b0 <;> cases b1 <;> cases b2 <;> simp_all [yt.j0]
  ·
   obtain ⟨b0, p0, r0⟩ := kid f1 (by simp [kidsOf, kidsN]) names (by omega) (by omega);obtain ⟨b1, p1, r1⟩ := kid f2 (by simp [kidsOf, kidsN]) names (by omega) (by omega);refine ⟨b0 && b1, fun k hk => ?_, fun k hk => ?_⟩
   ·
    obtain ⟨k, rfl, hk2⟩ := one hk;rw [g1];have hz : names + 0 = names := by omega
    have s0 := p0 k hk2;have s1 := p1 k hk2;cases b0 <;> cases b1 <;> simp_all [Yt.f, kidsOf, kidsN, goW, bndOf, bindsOf]
   ·
    obtain ⟨k, rfl, hk2⟩ := two hk;rw [yt.f, if_pos a0, if_pos a1, hrd];have s0 := r0 k hk2;have s1 := r1 k hk2;cases b0 <;> cases b1 <;> simp_all [yt.j0]
  ·
   obtain ⟨b0, p0, r0⟩ := kid f1 (by simp [kidsOf, kidsN]) names (by omega) (by omega);refine ⟨decide (0 ≤ f4) && decide (f4 < (os.length : Int)) && b0, fun k hk => ?_, fun k hk => ?_⟩
   ·
    obtain ⟨k, rfl, hk2⟩ := one hk;rw [g1];have hz : names + 0 = names := by omega
    have s0 := p0 k hk2;have hN : Yt.f 9 = some true := by simp [Yt.f]
    show (Yt.f 9).bind _ = _;rw [hN, Option.bind_some];by_cases hc : 0 ≤ f4 ∧ f4 < (os.length : Int)
    ·
     rw [if_neg (by rintro ⟨_, h⟩; have h : f4 < 0 ∨ f4 ≥ (os.length : Int) := h; omega), decide_eq_true hc.1, decide_eq_true hc.2];clear g1 hrd kid hc hN;cases b0 <;> simp_all [kidsOf, kidsN, goW, bndOf, bindsOf]
    ·
     rw [if_pos ⟨rfl, by show f4 < 0 ∨ f4 ≥ (os.length : Int); omega⟩];by_cases h1 : 0 ≤ f4
     ·
      rw [decide_eq_false (show ¬ f4 < (os.length : Int) by omega)];simp
     ·
      rw [decide_eq_false h1];simp
   ·
    obtain ⟨k, rfl, hk2⟩ := two hk;rw [yt.f, if_pos a0, if_pos a1, hrd];have s0 := r0 k hk2;by_cases hc : 0 ≤ f4 ∧ f4 < (os.length : Int)
    ·
     have c1 : f4 ≥ 0 := hc.1;have c2 : f4 < (os.length : Int) := hc.2;rw [decide_eq_true hc.1, decide_eq_true hc.2];clear g1 hrd kid hc;cases b0 <;> simp_all [yt.j0]
    ·
     by_cases h1 : 0 ≤ f4
     ·
      have c1 : f4 ≥ 0 := h1;have c2 : ¬ f4 < (os.length : Int) := by omega
      rw [decide_eq_false c2];simp [yt.j0, c1, c2]
     ·
      have c1 : ¬ f4 ≥ 0 := h1;rw [decide_eq_false h1];simp [yt.j0, c1]
  ·
   obtain ⟨b0, p0, r0⟩ := kid f1 (by simp [kidsOf, kidsN]) names (by omega) (by omega);obtain ⟨b1, p1, r1⟩ := kid f2 (by simp [kidsOf, kidsN]) (names + 2) (by omega) (by omega);obtain ⟨b2, p2, r2⟩ := kid f3 (by simp [kidsOf, kidsN]) (names + 1) (by omega) (by omega);refine ⟨decide (0 ≤ f4) && decide (f4 < (os.length : Int)) && b0 && b1 && b2, fun k hk => ?_, fun k hk => ?_⟩
   ·
    obtain ⟨k, rfl, hk2⟩ := one hk;rw [g1];have hz : names + 0 = names := by omega
    have s0 := p0 k hk2;have s1 := p1 k hk2;have s2 := p2 k hk2;have hN : Yt.f 10 = some true := by simp [Yt.f]
    show (Yt.f 10).bind _ = _;rw [hN, Option.bind_some];by_cases hc : 0 ≤ f4 ∧ f4 < (os.length : Int)
    ·
     rw [if_neg (by rintro ⟨_, h⟩; have h : f4 < 0 ∨ f4 ≥ (os.length : Int) := h; omega), decide_eq_true hc.1, decide_eq_true hc.2];clear g1 hrd kid hc hN;cases b0 <;> cases b1 <;> cases b2 <;> simp_all [kidsOf, kidsN, goW, bndOf, bindsOf]
    ·
     rw [if_pos ⟨rfl, by show f4 < 0 ∨ f4 ≥ (os.length : Int); omega⟩];by_cases h1 : 0 ≤ f4
     ·
      rw [decide_eq_false (show ¬ f4 < (os.length : Int) by omega)];simp
     ·
      rw [decide_eq_false h1];simp
   ·
    obtain ⟨k, rfl, hk2⟩ := two hk;rw [yt.f, if_pos a0, if_pos a1, hrd];have s0 := r0 k hk2;have s1 := r1 k hk2;have s2 := r2 k hk2;by_cases hc : 0 ≤ f4 ∧ f4 < (os.length : Int)
    ·
     have c1 : f4 ≥ 0 := hc.1;have c2 : f4 < (os.length : Int) := hc.2;rw [decide_eq_true hc.1, decide_eq_true hc.2];clear g1 hrd kid hc;cases b0 <;> cases b1 <;> cases b2 <;> simp_all [yt.j0]
    ·
     by_cases h1 : 0 ≤ f4
     ·
      have c1 : f4 ≥ 0 := h1;have c2 : ¬ f4 < (os.length : Int) := by omega
      rw [decide_eq_false c2];simp [yt.j0, c1, c2]
     ·
      have c1 : ¬ f4 ≥ 0 := h1;rw [decide_eq_false h1];simp [yt.j0, c1]
attribute [local go_sem] Vz V3 za0 za1 Vd Ve V4 V5
def xw.f (a0 : Int) : Option (Int) := some a0
set_option maxHeartbeats 8000000 in
set_option maxRecDepth 100000 in
theorem xw.calls (a0 : Int) (r : Int) (w : World) (h : xw.f a0 = some r) :
  Calls Tryz.prog 8 #[.int .i64 a0] w fun e w' => e = .returned (.int .i64 r) ∧ xm w w' := by
 have H : (some a0) = some r := h;clear h;obtain rfl := Option.some.inj H;go_enter Tryz.func8, Tryz.ntmps8;go_wp2
 go_ret;exact ⟨by first | rfl | (simp; done) | (simp [*]; done), by repeat (first | exact xm.refl _ | apply xm.step)⟩
def Yz.f (k : Nat)  : Option (Bool) := (some (([(⟨0, 0, 0, 0, 0, (⟨#[120]⟩ : ByteArray), (⟨#[]⟩ : ByteArray), (⟨#[]⟩ : ByteArray), (⟨#[]⟩ : ByteArray), 0⟩ : S44), (⟨9, 0, 0, 0, 0, (⟨#[97]⟩ : ByteArray), (⟨#[]⟩ : ByteArray), (⟨#[]⟩ : ByteArray), (⟨#[]⟩ : ByteArray), 0⟩ : S44), (⟨3, 1, 0, 0, 0, (⟨#[]⟩ : ByteArray), (⟨#[121]⟩ : ByteArray), (⟨#[]⟩ : ByteArray), (⟨#[]⟩ : ByteArray), 0⟩ : S44), (⟨3, 2, 0, 0, 0, (⟨#[]⟩ : ByteArray), (⟨#[120]⟩ : ByteArray), (⟨#[]⟩ : ByteArray), (⟨#[]⟩ : ByteArray), 5⟩ : S44)] : List (S44)) : List (S44))).bind fun za6 => ((Zy.f k (([(⟨(⟨#[97]⟩ : ByteArray), 0, 0⟩ : S42)] : List (S42))) za6).bind fun bt266 => ((some (([(⟨0, 0, 0, 0, 0, (⟨#[120]⟩ : ByteArray), (⟨#[]⟩ : ByteArray), (⟨#[]⟩ : ByteArray), (⟨#[]⟩ : ByteArray), 7⟩ : S44)] : List (S44)) : List (S44))).bind fun zao => ((Zy.f k ([] : List (S42)) zao).bind fun bt279 => ((Zy.f k ([] : List (S42)) ([] : List (S44))).bind fun bt288 => ((Zy.f k ([] : List (S42)) za6).bind fun bt297 => ((xg.f k bt266.2.1 (([(⟨0, 0, 0, 0, 1, (⟨#[]⟩ : ByteArray), (⟨#[]⟩ : ByteArray), (⟨#[]⟩ : ByteArray), (⟨#[]⟩ : ByteArray), 0⟩ : S44), (⟨9, 0, 0, 0, 0, (⟨#[]⟩ : ByteArray), (⟨#[]⟩ : ByteArray), (⟨#[]⟩ : ByteArray), (⟨#[]⟩ : ByteArray), 0⟩ : S44), (⟨3, 1, 0, 0, 0, (⟨#[]⟩ : ByteArray), (⟨#[]⟩ : ByteArray), (⟨#[]⟩ : ByteArray), (⟨#[]⟩ : ByteArray), 0⟩ : S44), (⟨3, 2, 0, 0, 0, (⟨#[]⟩ : ByteArray), (⟨#[]⟩ : ByteArray), (⟨#[]⟩ : ByteArray), (⟨#[]⟩ : ByteArray), 5⟩ : S44)] : List (S44)))).bind fun t309 => (if t309 = true then (if (bt266.1.length : Int) = 1 then (if bt266.2.2.1 = 0 then ((xw.f bt266.2.2.2).bind fun t310 => (if t310 = 0 then (if bt279.2.2.1 = 7 then ((xw.f bt279.2.2.2).bind fun t311 => (if t311 = 601 then ((xw.f bt288.2.2.2).bind fun t312 => (if t312 = 600 then (if bt297.2.2.1 = 0 then ((xw.f bt297.2.2.2).bind fun t313 => (if t313 = 602 then ((Ya.f k bt266.1 bt266.2.1).bind fun t314 => (if t314 = true then ((Ya.f k ([] : List (S42)) zao).bind fun t315 => (some (!t315))) else (some false))) else (some false))) else (some false)) else (some false))) else (some false))) else (some false)) else (some false))) else (some false)) else (some false)) else (some false))))))))
theorem Yz.mono : ∀ k, LeO (Yz.f k ) (Yz.f (k + 1) ) := by
 intro  k;unfold Yz.f;repeat' first
   | (with_reducible exact Ya.mono _ _ _)
   | (with_reducible exact Zy.mono _ _ _)
   | (with_reducible exact xg.mono _ _ _)
   | (with_reducible exact LeO.refl _)
   | (with_reducible exact LeO.none _)
   | (with_reducible refine LeO.ite ?_ ?_)
   | (with_reducible refine LeO.bind ?_ (fun _ => ?_))
   | exact Ya.mono _ _ _
   | exact Zy.mono _ _ _
   | exact xg.mono _ _ _
   | exact LeO.none _
   | refine LeO.ite ?_ ?_
   | refine LeO.bind ?_ (fun _ => ?_)
end Go.Proofs.YtfcjpkkglffnmaaGreatDoor.H
