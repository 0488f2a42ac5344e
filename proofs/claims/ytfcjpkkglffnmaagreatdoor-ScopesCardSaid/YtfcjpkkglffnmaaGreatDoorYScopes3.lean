/- Several texts in one: contracts of functions of the program, and what they lean on. In part written by a program of this session over the kit's print, in part by hand. -/
import Derived.Test.YtfcjpkkglffnmaaGreatDoorYScopes2
import Derived.ChangeAlike
import Derived.RegionTactic
namespace Go.Proofs.YtfcjpkkglffnmaaGreatDoor.H
open Go.RowKit Go.Proofs.YtfcjpkkglffnmaaGreatDoorW.PrintWords Go.Proofs.YtfcjpkkglffnmaaGreatDoorW.PrintLast Go.Proofs.YtfcjpkkglffnmaaGreatDoorW.PrintMore
attribute [local go_sem] Vz V3 za0 za1 Vd Ve V4 V5
set_option linter.unusedVariables false
set_option linter.unusedSimpArgs false
def Vw.f (k : Nat) (Zb : ByteArray) (xy : Int) (vz : Int) : Option (Bool) := (Xv.f k Zb).bind fun t132 => (if t132 = true then ((zaw.f xy).bind fun t133 => (if t133 = true then ((zaw.f vz).bind fun t134 => (some (!t134))) else (some true))) else (some true))
theorem Vw.mono : ∀ a0 a1 a2 k, LeO (Vw.f k a0 a1 a2) (Vw.f (k + 1) a0 a1 a2) := by
 intro a0 a1 a2 k;unfold Vw.f;repeat' first
   | (with_reducible exact Xv.mono _ _)
   | (with_reducible exact LeO.refl _)
   | (with_reducible exact LeO.none _)
   | (with_reducible refine LeO.ite ?_ ?_)
   | (with_reducible refine LeO.bind ?_ (fun _ => ?_))
   | exact Xv.mono _ _
   | exact LeO.none _
   | refine LeO.ite ?_ ?_
   | refine LeO.bind ?_ (fun _ => ?_)
set_option maxHeartbeats 8000000 in
set_option maxRecDepth 100000 in
theorem Vw.calls (k : Nat) (Zb : ByteArray) (xy : Int) (vz : Int) (r : Bool) (w : World) (h : Vw.f k Zb xy vz = some r) :
  Calls Tryz.prog 49 #[.agg #[.string Zb, .int .i64 xy, .int .i64 vz]] w fun e w' => e = .returned (.bool r) ∧ Below w.heap.size w w' := by
 have hu42 := Tryz.underlying42;have HB := zf.mk (Below.refl w.heap.size w);have H : ((Xv.f k Zb).bind fun t132 => (if t132 = true then ((zaw.f xy).bind fun t133 => (if t133 = true then ((zaw.f vz).bind fun t134 => (some (!t134))) else (some true))) else (some true))) = some r := h;clear h;replace H := Option.bind_eq_some_iff.mp H;obtain ⟨t132, A20, H⟩ := H;replace H : (if t132 = true then ((zaw.f xy).bind fun t133 => (if t133 = true then ((zaw.f vz).bind fun t134 => (some (!t134))) else (some true))) else (some true)) = some r := H;have A2 := zf.mk A20;clear A20;by_cases c3 : t132 = true
 ·
  subst c3;have H1 : ((zaw.f xy).bind fun t133 => (if t133 = true then ((zaw.f vz).bind fun t134 => (some (!t134))) else (some true))) = some r := by rw [if_pos rfl] at H; exact H
  clear H;have H := H1;clear H1;replace H := Option.bind_eq_some_iff.mp H;obtain ⟨t133, A40, H⟩ := H;replace H : (if t133 = true then ((zaw.f vz).bind fun t134 => (some (!t134))) else (some true)) = some r := H;have A4 := zf.mk A40;clear A40;by_cases c5 : t133 = true
  ·
   subst c5;have H1 : ((zaw.f vz).bind fun t134 => (some (!t134))) = some r := by rw [if_pos rfl] at H; exact H
   clear H;have H := H1;clear H1;replace H := Option.bind_eq_some_iff.mp H;obtain ⟨t134, A60, H⟩ := H;replace H : (some (!t134)) = some r := H;have A6 := zf.mk A60;clear A60;obtain rfl := Option.some.inj H;go_enter Tryz.func49, Tryz.ntmps49;go_wp2_with (first | ((with_reducible refine Yx (N := 1) rfl ?_); refine Y7 ?hg (N := 1) ?hd (cs := #[.string Zb, .int .i64 xy, .int .i64 vz]) (t := 42) ?hr ?_; (case hd => rfl); (case hg => rfl); (case hr => first | (go_simp; done) | (go_simp; rfl)); intro zgw hg w7 hbox hb; have n0_ := zf.mk (Zc (by repeat (first | (with_reducible first | exact HB.out | apply zh | apply zg | apply zk) | exact HB.out)) hb); have n1_ := zf.mk (hbox); have n2_ := zf.mk ((by rw [hg]; exact (xn (by repeat (first | (with_reducible first | exact HB.out | apply zh | apply zg | apply zk) | exact HB.out))) : w.heap.size ≤ zgw)); have n3_ := zf.mk ((by rw [hg]; exact (xn (by repeat (first | (with_reducible first | exact HB.out | apply zh | apply zg | apply zk) | exact HB.out))) : w.heap.size ≤ zgw)); clear HB; have HB := n0_; have zbf := n1_; have GW131 := n2_; have zkp := n3_; clear n0_ n1_ n2_ n3_; clear hb hbox hg; obtain ⟨hcz8_0, hcz8_1, hcz8_2⟩ := zh1 zbf.out; have hfz8_0 := zx zbf.out 0; have hfz8_1 := zx zbf.out 1; have hfz8_2 := zx zbf.out 2) | ((with_reducible refine Zw (f := 50) rfl ?_); refine Xc (some 5) rfl rfl Tryz.func50 (by kernel_rfl) rfl #[.string Zb] rfl (by (try simp only [List.map_toArray, List.map_cons, List.map_nil]); first | done | rfl | (simp only [List.length_drop, List.length_take]; rfl)) ?_; (with_reducible refine (Xv.calls k Zb true _ A2.out).mono ?_); rintro e w9 ⟨rfl, hb⟩; refine ⟨_, rfl, ?_⟩; have n0_ := zf.mk (zy (g := zgw) (o := .cells #[.string Zb, .int .i64 xy, .int .i64 vz] 42 (0, 0)) (by (with_reducible repeat (first | refine zn ?_ _ | refine zq ?_ | refine zo ?_ _)); exact zbf.out) hb); have n1_ := zf.mk (Zc (by repeat (first | (with_reducible first | exact HB.out | apply zh | apply zg | apply zk | refine zi ?_ zkp.out) | exact HB.out)) hb); clear zbf; clear HB; have zbf := n0_; have HB := n1_; clear n0_ n1_; (try clear hb); (try clear hb2); (try clear hk); (try clear hi); obtain ⟨zsa, zsb, hcz10_2⟩ := zh1 zbf.out; have zsc := zx zbf.out 0; have zsd := zx zbf.out 1; have hfz10_2 := zx zbf.out 2) | (go_at_call 51; (with_reducible refine (zaw.calls xy true _ A4.out).mono ?_); rintro e w' ⟨rfl, ⟨nd, rfl⟩⟩) | (go_at_call 51; (with_reducible refine (zaw.calls vz t134 _ A6.out).mono ?_); rintro e w' ⟨rfl, ⟨nd, rfl⟩⟩))
   go_ret;exact ⟨by first | rfl | (simp [Zd, Ze] <;> rfl) | (simp [*, Zd, Ze] <;> rfl), by repeat (first | (with_reducible first | exact HB.out | apply zh | apply zg | apply zk | refine zi ?_ zkp.out) | exact HB.out)⟩
  ·
   replace c5 := Bool.eq_false_iff.mpr c5;subst c5;have H1 : (some true) = some r := by rw [if_neg (show ¬ (false = true) by decide)] at H; exact H
   clear H;have H := H1;clear H1;obtain rfl := Option.some.inj H;go_enter Tryz.func49, Tryz.ntmps49;go_wp2_with (first | ((with_reducible refine Yx (N := 1) rfl ?_); refine Y7 ?hg (N := 1) ?hd (cs := #[.string Zb, .int .i64 xy, .int .i64 vz]) (t := 42) ?hr ?_; (case hd => rfl); (case hg => rfl); (case hr => first | (go_simp; done) | (go_simp; rfl)); intro zgw hg w11 hbox hb; have n0_ := zf.mk (Zc (by repeat (first | (with_reducible first | exact HB.out | apply zh | apply zg | apply zk) | exact HB.out)) hb); have n1_ := zf.mk (hbox); have n2_ := zf.mk ((by rw [hg]; exact (xn (by repeat (first | (with_reducible first | exact HB.out | apply zh | apply zg | apply zk) | exact HB.out))) : w.heap.size ≤ zgw)); have n3_ := zf.mk ((by rw [hg]; exact (xn (by repeat (first | (with_reducible first | exact HB.out | apply zh | apply zg | apply zk) | exact HB.out))) : w.heap.size ≤ zgw)); clear HB; have HB := n0_; have zbf := n1_; have GW131 := n2_; have zkp := n3_; clear n0_ n1_ n2_ n3_; clear hb hbox hg; obtain ⟨zoh, zoi, hcz12_2⟩ := zh1 zbf.out; have zoj := zx zbf.out 0; have zok := zx zbf.out 1; have hfz12_2 := zx zbf.out 2) | ((with_reducible refine Zw (f := 50) rfl ?_); refine Xc (some 5) rfl rfl Tryz.func50 (by kernel_rfl) rfl #[.string Zb] rfl (by (try simp only [List.map_toArray, List.map_cons, List.map_nil]); first | done | rfl | (simp only [List.length_drop, List.length_take]; rfl)) ?_; (with_reducible refine (Xv.calls k Zb true _ A2.out).mono ?_); rintro e w13 ⟨rfl, hb⟩; refine ⟨_, rfl, ?_⟩; have n0_ := zf.mk (zy (g := zgw) (o := .cells #[.string Zb, .int .i64 xy, .int .i64 vz] 42 (0, 0)) (by (with_reducible repeat (first | refine zn ?_ _ | refine zq ?_ | refine zo ?_ _)); exact zbf.out) hb); have n1_ := zf.mk (Zc (by repeat (first | (with_reducible first | exact HB.out | apply zh | apply zg | apply zk | refine zi ?_ zkp.out) | exact HB.out)) hb); clear zbf; clear HB; have zbf := n0_; have HB := n1_; clear n0_ n1_; (try clear hb); (try clear hb2); (try clear hk); (try clear hi); obtain ⟨hcz14_0, hcz14_1, hcz14_2⟩ := zh1 zbf.out; have hfz14_0 := zx zbf.out 0; have hfz14_1 := zx zbf.out 1; have hfz14_2 := zx zbf.out 2) | (go_at_call 51; (with_reducible refine (zaw.calls xy false _ A4.out).mono ?_); rintro e w' ⟨rfl, ⟨nd, rfl⟩⟩))
   go_ret;exact ⟨by first | rfl | (simp [Zd, Ze] <;> rfl) | (simp [*, Zd, Ze] <;> rfl), by repeat (first | (with_reducible first | exact HB.out | apply zh | apply zg | apply zk | refine zi ?_ zkp.out) | exact HB.out)⟩
 ·
  replace c3 := Bool.eq_false_iff.mpr c3;subst c3;have H1 : (some true) = some r := by rw [if_neg (show ¬ (false = true) by decide)] at H; exact H
  clear H;have H := H1;clear H1;obtain rfl := Option.some.inj H;go_enter Tryz.func49, Tryz.ntmps49;go_wp2_with (first | ((with_reducible refine Yx (N := 1) rfl ?_); refine Y7 ?hg (N := 1) ?hd (cs := #[.string Zb, .int .i64 xy, .int .i64 vz]) (t := 42) ?hr ?_; (case hd => rfl); (case hg => rfl); (case hr => first | (go_simp; done) | (go_simp; rfl)); intro zgw hg w15 hbox hb; have n0_ := zf.mk (Zc (by repeat (first | (with_reducible first | exact HB.out | apply zh | apply zg | apply zk) | exact HB.out)) hb); have n1_ := zf.mk (hbox); have n2_ := zf.mk ((by rw [hg]; exact (xn (by repeat (first | (with_reducible first | exact HB.out | apply zh | apply zg | apply zk) | exact HB.out))) : w.heap.size ≤ zgw)); have n3_ := zf.mk ((by rw [hg]; exact (xn (by repeat (first | (with_reducible first | exact HB.out | apply zh | apply zg | apply zk) | exact HB.out))) : w.heap.size ≤ zgw)); clear HB; have HB := n0_; have zbf := n1_; have GW131 := n2_; have zkp := n3_; clear n0_ n1_ n2_ n3_; clear hb hbox hg; obtain ⟨hcz16_0, hcz16_1, hcz16_2⟩ := zh1 zbf.out; have hfz16_0 := zx zbf.out 0; have hfz16_1 := zx zbf.out 1; have hfz16_2 := zx zbf.out 2) | ((with_reducible refine Zw (f := 50) rfl ?_); refine Xc (some 5) rfl rfl Tryz.func50 (by kernel_rfl) rfl #[.string Zb] rfl (by (try simp only [List.map_toArray, List.map_cons, List.map_nil]); first | done | rfl | (simp only [List.length_drop, List.length_take]; rfl)) ?_; (with_reducible refine (Xv.calls k Zb false _ A2.out).mono ?_); rintro e w17 ⟨rfl, hb⟩; refine ⟨_, rfl, ?_⟩; have n0_ := zf.mk (zy (g := zgw) (o := .cells #[.string Zb, .int .i64 xy, .int .i64 vz] 42 (0, 0)) (by (with_reducible repeat (first | refine zn ?_ _ | refine zq ?_ | refine zo ?_ _)); exact zbf.out) hb); have n1_ := zf.mk (Zc (by repeat (first | (with_reducible first | exact HB.out | apply zh | apply zg | apply zk | refine zi ?_ zkp.out) | exact HB.out)) hb); clear zbf; clear HB; have zbf := n0_; have HB := n1_; clear n0_ n1_; (try clear hb); (try clear hb2); (try clear hk); (try clear hi)))
  go_ret;exact ⟨by first | rfl | (simp [Zd, Ze] <;> rfl) | (simp [*, Zd, Ze] <;> rfl), by repeat (first | (with_reducible first | exact HB.out | apply zh | apply zg | apply zk | refine zi ?_ zkp.out) | exact HB.out)⟩
def goIdx (k : Nat) : List S42 → Nat → Option Int
 | [], _ => some (-1)
 | o :: os, i => (Vw.f k o.f0 o.f1 o.f2).bind fun b => if b = true then some (i : Int) else goIdx k os (i + 1)
theorem zlk (k : Nat) : ∀ os i, LeO (goIdx k os i) (goIdx (k + 1) os i)
 | [], i => LeO.refl _
 | o :: os, i => by
  unfold goIdx;exact LeO.bind (Vw.mono _ _ _ k) fun b => LeO.ite (LeO.refl _) (zlk k os _)
theorem zll {α : Type} {l : List α} {i : Nat} {c : α} (h : l[i]? = some c) : c :: l.drop (i + 1) = l.drop i := by
 obtain ⟨hi, rfl⟩ := List.getElem?_eq_some_iff.1 h;exact (List.drop_eq_getElem_cons hi).symm
set_option maxRecDepth 100000 in
set_option maxHeartbeats 8000000 in
theorem zk0 (k : Nat) (A0 : Option Addr) (c0 : Nat) (l0 : List S42) (r : Int) (w : World) (hr0 : Kd.C k42 w A0 l0.length l0) (hc0 : l0.length ≤ c0) (hl : l0.length ≤ 4) (h : goIdx k l0 0 = some r) :
  Calls Tryz.prog 66 #[.slice A0 l0.length c0, .func (.func 49) #[] #[]] w fun e w' => e = .returned (.int .i64 r) ∧ Below w.heap.size w w' := by
 have HC := zf.mk hr0;have H := zf.mk h;clear hr0 h;go_enter Tryz.func66, Tryz.ntmps66;go_wp2_with fail
 go_loopw [8] (fun v8 wr => ∃ (i : Nat), v8 = .int .i64 i ∧ i ≤ l0.length ∧ zf (goIdx k (l0.drop i) i = some r) ∧ zf (Below w.heap.size w wr)) (fun v8 _ => l0.length - (intOf v8).toNat)
 case atStart => exact ⟨0, rfl, Nat.zero_le _, H, ⟨Below.refl _ _⟩⟩
 case round =>
  obtain ⟨i, rfl, hi, HG, HB⟩ := hrel;clear H;by_cases hlt : i < l0.length
  ·
   have hcr : Kd.C k42 wr A0 l0.length l0 := Kd.Zq HC.out HB.out;obtain ⟨ad, e157, hx0, hx1, hx2⟩ := za5 hcr i (by omega) (by omega);cases e157;have hxx : l0[i]? = some (Zp l0 i) := by
    rw [List.getElem?_eq_getElem hlt, Zp, Int.toNat_natCast, List.getD_eq_getElem?_getD, List.getElem?_eq_getElem hlt];rfl
   have hg := HG.out;rw [← zll hxx, goIdx] at hg;replace hg := Option.bind_eq_some_iff.mp hg;obtain ⟨b, hb, hg⟩ := hg;have HBB := zf.mk hb;have HG2 := zf.mk hg;rw [Int.toNat_natCast] at hx0 hx1 hx2;generalize Zp l0 i = x at *;clear hb hg hxx hcr HG;cases b
   ·
    have hg := HG2.out;simp only [Bool.false_eq_true, if_false] at hg;have HG3 := zf.mk hg;clear hg HG2;go_wp2_with (go_at_call 49; (with_reducible refine (Vw.calls k x.f0 x.f1 x.f2 false _ HBB.out).mono ?_); rintro e w3 ⟨rfl, hb3⟩; have HB3 := zf.mk hb3; clear hb3)
    go_roundw
    case rel => exact ⟨i + 1, by go_num, by omega, HG3, ⟨HB.out.trans (HB3.out.mono HB.out.size)⟩⟩
    case measure => simp [intOf]; omega
   ·
    have hg := HG2.out;simp only [if_true] at hg;obtain rfl := Option.some.inj hg;clear hg HG2;go_wp2_with (go_at_call 49; (with_reducible refine (Vw.calls k x.f0 x.f1 x.f2 true _ HBB.out).mono ?_); rintro e w3 ⟨rfl, hb3⟩; have HB3 := zf.mk hb3; clear hb3)
    go_ret;exact ⟨rfl, HB.out.trans (HB3.out.mono HB.out.size)⟩
  ·
   have hg := HG.out;rw [List.drop_eq_nil_of_le (by omega), goIdx] at hg;obtain rfl := Option.some.inj hg;clear hg HG;go_wp2
   go_ret;exact ⟨rfl, HB.out⟩
def X4.f (k : Nat) (l : List S42) : Option Bool := if l.length ≤ 4 then (goIdx k l 0).bind fun r => some (!decide (r ≥ 0)) else some false
theorem X4.mono : ∀ a0 k, LeO (X4.f k a0) (X4.f (k + 1) a0) := by
 intro a0 k;unfold X4.f;exact LeO.ite (LeO.bind (zlk k _ _) fun _ => LeO.refl _) (LeO.refl _)
set_option maxRecDepth 100000 in
set_option maxHeartbeats 8000000 in
theorem zhs (k : Nat) (A0 : Option Addr) (c0 : Nat) (l0 : List S42) (r : Int) (w : World) (hr0 : Kd.C k42 w A0 l0.length l0) (hc0 : l0.length ≤ c0) (hl : l0.length ≤ 4) (h : goIdx k l0 0 = some r) :
  Calls Tryz.prog 52 #[.slice A0 l0.length c0, .func (.func 49) #[] #[]] w fun e w' => e = .returned (.bool (decide (0 ≤ r))) ∧ Below w.heap.size w w' := by
 have C := zf.mk (zk0 k A0 c0 l0 r w hr0 hc0 hl h);clear hr0 hc0 h;go_enter Tryz.func52, Tryz.ntmps52;go_wp2_with (go_at_call 66; refine C.out.mono ?_; rintro e w3 ⟨rfl, hb3⟩; have HB3 := zf.mk hb3; clear hb3)
 go_ret;exact ⟨rfl, HB3.out⟩
set_option maxRecDepth 100000 in
set_option maxHeartbeats 8000000 in
theorem X4.calls (k : Nat) (A0 : Option Addr) (c0 : Nat) (l0 : List (S42)) (r : Bool) (w : World) (hr0 : Kd.C k42 w A0 l0.length l0) (hc0 : l0.length ≤ c0) (h : X4.f k l0 = some r) :
  Calls Tryz.prog 26 #[.slice A0 l0.length c0] w fun e w' => e = .returned (.bool r) ∧ Below w.heap.size w w' := by
 unfold X4.f at h;by_cases hl : l0.length ≤ 4
 ·
  rw [if_pos hl] at h;replace h := Option.bind_eq_some_iff.mp h;obtain ⟨q, hq, h⟩ := h;obtain rfl := Option.some.inj h;have C := zf.mk (zhs k A0 c0 l0 q w hr0 hc0 hl hq);have b1 : decide ((l0.length : Int) ≤ 4) = true := decide_eq_true (by omega);clear hr0 hc0 hq h;go_enter Tryz.func26, Tryz.ntmps26;go_wp2_with (go_at_call 52; refine C.out.mono ?_; rintro e w3 ⟨rfl, hb3⟩; have HB3 := zf.mk hb3; clear hb3)
  go_ret;exact ⟨by first | rfl | (simp; done), HB3.out⟩
 ·
  rw [if_neg hl] at h;obtain rfl := Option.some.inj h;have b1 : decide ((l0.length : Int) ≤ 4) = false := decide_eq_false (by omega);clear hr0 hc0 h;go_enter Tryz.func26, Tryz.ntmps26;go_wp2
  go_ret;exact ⟨by first | rfl | (simp; done), Below.refl _ _⟩
theorem zlm (d : Nat) (w : World) (x0 y0 : Int) (x1 y1 : Int) (x2 y2 : Int) (x3 y3 : Int) (x4 y4 : Int) (x5 y5 : ByteArray) (x6 y6 : ByteArray) (x7 y7 : ByteArray) (x8 y8 : ByteArray) (x9 y9 : Int) :
  (Op.equalIn (d + 2) 44 (.agg #[.int .i64 x0, .int .i64 x1, .int .i64 x2, .int .i64 x3, .int .i64 x4, .string x5, .string x6, .string x7, .string x8, .int .i64 x9]) (.agg #[.int .i64 y0, .int .i64 y1, .int .i64 y2, .int .i64 y3, .int .i64 y4, .string y5, .string y6, .string y7, .string y8, .int .i64 y9])).run Tryz.prog w = .ok (x0 == y0 && (x1 == y1 && (x2 == y2 && (x3 == y3 && (x4 == y4 && (x5.toList == y5.toList && (x6.toList == y6.toList && (x7.toList == y7.toList && (x8.toList == y8.toList && (x9 == y9)))))))))) w := by
 refine eqA_of Tryz.underlying44 (by kernel_rfl) ?_;refine zch (by rfl) (by go_simp; rfl) (by go_simp; rfl) (by go_simp) ?_;refine zch (by rfl) (by go_simp; rfl) (by go_simp; rfl) (by go_simp) ?_;refine zch (by rfl) (by go_simp; rfl) (by go_simp; rfl) (by go_simp) ?_;refine zch (by rfl) (by go_simp; rfl) (by go_simp; rfl) (by go_simp) ?_;refine zch (by rfl) (by go_simp; rfl) (by go_simp; rfl) (by go_simp) ?_;refine zch (by rfl) (by go_simp; rfl) (by go_simp; rfl) (by go_simp) ?_;refine zch (by rfl) (by go_simp; rfl) (by go_simp; rfl) (by go_simp) ?_;refine zch (by rfl) (by go_simp; rfl) (by go_simp; rfl) (by go_simp) ?_;refine zch (by rfl) (by go_simp; rfl) (by go_simp; rfl) (by go_simp) ?_;exact zpv (by rfl) (by go_simp; rfl) (by go_simp; rfl) (by go_simp)
def kidsN (kind : Int) : Nat := if kind = 3 ∨ kind = 9 then 1 else if kind = 4 ∨ kind = 5 ∨ kind = 6 ∨ kind = 8 then 2 else if kind = 7 ∨ kind = 10 then 3 else 0
theorem zcj (kind : Int) : kidsN kind ≤ 3 := by
 unfold kidsN
 repeat' split
 all_goals omega
def kidsOf (x : S44) : List Int := [x.f1, x.f2, x.f3].take (kidsN x.f0)
def fieldPtrs (b o n : Nat) : List Value := (List.range n).map fun j => .pointer (some ⟨b, o + j, none⟩)
def ptrOf (g n : Nat) : Option Addr := if n = 0 then none else some ⟨g, 0, none⟩
theorem zdf {g n : Nat} (h : 0 < n) : ptrOf g n = some ⟨g, 0, none⟩ := by unfold ptrOf; rw [if_neg (by omega)]
def KidsPost (b o : Nat) (n : Nat) (w : World) (e : Ending) (w' : World) : Prop :=
 e = .returned (.slice (ptrOf w.heap.size n) n n) ∧ Below w.heap.size w w' ∧ (0 < n → w'.heap[w.heap.size]? = some (.cells (fieldPtrs b o n).toArray 79 (0, 0)))
set_option maxHeartbeats 1000000 in
theorem zt7 (b o : Nat) (kind : Int) (w : World) (h : w.cell? ⟨b, o, none⟩ = some (.int .i64 kind)) (h3 : (kind == 3) = false) (h9 : (kind == 9) = false) (h4 : (kind == 4) = false) (h5 : (kind == 5) = false) (h6 : (kind == 6) = false) (h8 : (kind == 8) = false) (h7 : (kind == 7) = false) (h10 : (kind == 10) = false) :
  Calls Tryz.prog 43 #[.pointer (some ⟨b, o, none⟩)] w (KidsPost b (o + 1) 0 w) := by
 go_enter Tryz.func43, Tryz.ntmps43;go_wp2
 go_ret;exact ⟨rfl, Below.refl _ _, fun h => by omega⟩
set_option maxHeartbeats 4000000 in
theorem zt8 (b o : Nat) (kind : Int) (n : Nat) (w : World) (h : w.cell? ⟨b, o, none⟩ = some (.int .i64 kind)) (hk : kidsN kind = n) (hn : 0 < n) :
  Calls Tryz.prog 43 #[.pointer (some ⟨b, o, none⟩)] w (KidsPost b (o + 1) n w) := by
 have hc : (n = 1 ∧ (kind = 3 ∨ kind = 9)) ∨ (n = 2 ∧ (kind = 4 ∨ kind = 5 ∨ kind = 6 ∨ kind = 8)) ∨ (n = 3 ∧ (kind = 7 ∨ kind = 10)) := by
  unfold kidsN at hk;split at hk
  ·
   omega
  ·
   split at hk
   ·
    omega
   ·
    split at hk
    ·
     omega
    ·
     omega
 clear hk hn;rcases hc with ⟨rfl, rfl | rfl⟩ | ⟨rfl, rfl | rfl | rfl | rfl⟩ | ⟨rfl, rfl | rfl⟩
 ·
  go_enter Tryz.func43, Tryz.ntmps43;go_wp2
  go_ret;exact ⟨rfl, (Below.refl _ _).alloc (Nat.le_refl _) _, fun _ => (heap_alloc_new w _).trans rfl⟩
 ·
  go_enter Tryz.func43, Tryz.ntmps43;go_wp2
  go_ret;exact ⟨rfl, (Below.refl _ _).alloc (Nat.le_refl _) _, fun _ => (heap_alloc_new w _).trans rfl⟩
 all_goals
  go_enter Tryz.func43, Tryz.ntmps43;go_wp2
  go_region
  all_goals go_wp2
  all_goals go_ret
  all_goals exact ⟨rfl, Yw ((Below.refl _ _).alloc (Nat.le_refl _) _), fun _ => (heap_alloc_new w _).trans rfl⟩
theorem zck (b o : Nat) (kind : Int) (w : World) (h : w.cell? ⟨b, o, none⟩ = some (.int .i64 kind)) :
  Calls Tryz.prog 43 #[.pointer (some ⟨b, o, none⟩)] w (KidsPost b (o + 1) (kidsN kind) w) := by
 by_cases hn : 0 < kidsN kind
 ·
  exact zt8 b o kind _ w h rfl hn
 ·
  have h0 : kidsN kind = 0 := by omega
  rw [h0];have hc : ¬ (kind = 3 ∨ kind = 9) ∧ ¬ (kind = 4 ∨ kind = 5 ∨ kind = 6 ∨ kind = 8) ∧ ¬ (kind = 7 ∨ kind = 10) := by
   unfold kidsN at h0;refine ⟨fun h => ?_, fun h => ?_, fun h => ?_⟩
   ·
    rw [if_pos h] at h0; omega
   ·
    rw [if_neg (by omega), if_pos h] at h0; omega
   ·
    rw [if_neg (by omega), if_neg (by omega), if_pos h] at h0; omega
  refine zt7 b o kind w h ?_ ?_ ?_ ?_ ?_ ?_ ?_ ?_ <;> (rw [beq_eq_false_iff_ne]; omega)
def Yt.f (a0 : Int) : Option (Bool) := if a0 = 0 then (some true) else (if a0 = 9 then (some true) else (some (a0 == 10)))
set_option maxHeartbeats 8000000 in
set_option maxRecDepth 100000 in
theorem Yt.calls (a0 : Int) (r : Bool) (w : World) (h : Yt.f a0 = some r) :
  Calls Tryz.prog 55 #[.int .i64 a0] w fun e w' => e = .returned (.bool r) ∧ xm w w' := by
 have H : (if a0 = 0 then (some true) else (if a0 = 9 then (some true) else (some (a0 == 10)))) = some r := h;clear h;by_cases c2 : a0 = 0
 ·
  rw [if_pos c2] at H;have ze7 : (a0 == 0) = true := beq_iff_eq.mpr c2;have zhk : (a0 != 0) = false := bne_eq_false_iff_eq.mpr c2;clear c2;obtain rfl := Option.some.inj H;go_enter Tryz.func55, Tryz.ntmps55;go_wp2
  go_ret;exact ⟨by first | rfl | (simp; done) | (simp [*]; done), by repeat (first | exact xm.refl _ | apply xm.step)⟩
 ·
  rw [if_neg c2] at H;have ze7 : (a0 == 0) = false := beq_eq_false_iff_ne.mpr c2;have zhk : (a0 != 0) = true := bne_iff_ne.mpr c2;by_cases c3 : a0 = 9
  ·
   rw [if_pos c3] at H;have zbm : (a0 == 9) = true := beq_iff_eq.mpr c3;have zga : (a0 != 9) = false := bne_eq_false_iff_eq.mpr c3;clear c3;obtain rfl := Option.some.inj H;go_enter Tryz.func55, Tryz.ntmps55;go_wp2
   go_ret;exact ⟨by first | rfl | (simp; done) | (simp [*]; done), by repeat (first | exact xm.refl _ | apply xm.step)⟩
  ·
   rw [if_neg c3] at H;have zbm : (a0 == 9) = false := beq_eq_false_iff_ne.mpr c3;have zga : (a0 != 9) = true := bne_iff_ne.mpr c3;obtain rfl := Option.some.inj H;go_enter Tryz.func55, Tryz.ntmps55;go_wp2
   go_ret;exact ⟨by first | rfl | (simp; done) | (simp [*]; done), by repeat (first | exact xm.refl _ | apply xm.step)⟩
def zc3.f (a0 : Int) : Option (Int) := if a0 = 1 then (some 1073741823) else (if a0 = 2 then (some 1) else (if a0 = 8 then (some 5) else (some (-1))))
set_option maxHeartbeats 8000000 in
set_option maxRecDepth 100000 in
theorem zc3.calls (a0 : Int) (r : Int) (w : World) (h : zc3.f a0 = some r) :
  Calls Tryz.prog 72 #[.int .i64 a0] w fun e w' => e = .returned (.int .i64 r) ∧ xm w w' := by
 have H : (if a0 = 1 then (some 1073741823) else (if a0 = 2 then (some 1) else (if a0 = 8 then (some 5) else (some (-1))))) = some r := h;clear h;by_cases c2 : a0 = 1
 ·
  rw [if_pos c2] at H;have ze7 : (a0 == 1) = true := beq_iff_eq.mpr c2;have zhk : (a0 != 1) = false := bne_eq_false_iff_eq.mpr c2;clear c2;obtain rfl := Option.some.inj H;go_enter Tryz.func72, Tryz.ntmps72;go_wp2
  go_ret;exact ⟨by first | rfl | (simp; done) | (simp [*]; done), by repeat (first | exact xm.refl _ | apply xm.step)⟩
 ·
  rw [if_neg c2] at H;have ze7 : (a0 == 1) = false := beq_eq_false_iff_ne.mpr c2;have zhk : (a0 != 1) = true := bne_iff_ne.mpr c2;by_cases c3 : a0 = 2
  ·
   rw [if_pos c3] at H;have zbm : (a0 == 2) = true := beq_iff_eq.mpr c3;have zga : (a0 != 2) = false := bne_eq_false_iff_eq.mpr c3;clear c3;obtain rfl := Option.some.inj H;go_enter Tryz.func72, Tryz.ntmps72;go_wp2
   go_ret;exact ⟨by first | rfl | (simp; done) | (simp [*]; done), by repeat (first | exact xm.refl _ | apply xm.step)⟩
  ·
   rw [if_neg c3] at H;have zbm : (a0 == 2) = false := beq_eq_false_iff_ne.mpr c3;have zga : (a0 != 2) = true := bne_iff_ne.mpr c3;by_cases c4 : a0 = 8
   ·
    rw [if_pos c4] at H;have zbn : (a0 == 8) = true := beq_iff_eq.mpr c4;have ze8 : (a0 != 8) = false := bne_eq_false_iff_eq.mpr c4;clear c4;obtain rfl := Option.some.inj H;go_enter Tryz.func72, Tryz.ntmps72;go_wp2
    go_ret;exact ⟨by first | rfl | (simp; done) | (simp [*]; done), by repeat (first | exact xm.refl _ | apply xm.step)⟩
   ·
    rw [if_neg c4] at H;have zbn : (a0 == 8) = false := beq_eq_false_iff_ne.mpr c4;have ze8 : (a0 != 8) = true := bne_iff_ne.mpr c4;obtain rfl := Option.some.inj H;go_enter Tryz.func72, Tryz.ntmps72;go_wp2
    go_ret;exact ⟨by first | rfl | (simp; done) | (simp [*]; done), by repeat (first | exact xm.refl _ | apply xm.step)⟩
def nameOffs (kind : Int) : List Nat := if kind = 0 ∨ kind = 9 then [5] else if kind = 3 ∨ kind = 5 then [6] else if kind = 6 then [6, 7] else if kind = 10 then [5, 6, 7, 8] else []
def namePtrs (b : Nat) (l : List Nat) : List Value := l.map fun j => .pointer (some ⟨b, j, none⟩)
def NamesPost (b : Nat) (l : List Nat) (w : World) (e : Ending) (w' : World) : Prop :=
 e = .returned (.slice (ptrOf w.heap.size l.length) l.length l.length) ∧ Below w.heap.size w w' ∧ (0 < l.length → w'.heap[w.heap.size]? = some (.cells (namePtrs b l).toArray 114 (0, 0)))
set_option maxRecDepth 100000 in
set_option maxHeartbeats 8000000 in
theorem zp2 (b : Nat) (kind : Int) (w : World) (h : w.cell? ⟨b, 0, none⟩ = some (.int .i64 kind)) :
  Calls Tryz.prog 73 #[.pointer (some ⟨b, 0, none⟩)] w (NamesPost b (nameOffs kind) w) := by
 by_cases c0 : kind = 0
 ·
  subst c0;go_enter Tryz.func73, Tryz.ntmps73;go_wp2
  go_ret;exact ⟨rfl, (Below.refl _ _).alloc (Nat.le_refl _) _, fun _ => (heap_alloc_new w _).trans rfl⟩
 ·
  by_cases c9 : kind = 9
  ·
   subst c9;go_enter Tryz.func73, Tryz.ntmps73;go_wp2
   go_ret;exact ⟨rfl, (Below.refl _ _).alloc (Nat.le_refl _) _, fun _ => (heap_alloc_new w _).trans rfl⟩
  ·
   by_cases c3 : kind = 3
   ·
    subst c3;go_enter Tryz.func73, Tryz.ntmps73;go_wp2
    go_ret;exact ⟨rfl, (Below.refl _ _).alloc (Nat.le_refl _) _, fun _ => (heap_alloc_new w _).trans rfl⟩
   ·
    by_cases c5 : kind = 5
    ·
     subst c5;go_enter Tryz.func73, Tryz.ntmps73;go_wp2
     go_ret;exact ⟨rfl, (Below.refl _ _).alloc (Nat.le_refl _) _, fun _ => (heap_alloc_new w _).trans rfl⟩
    ·
     by_cases c6 : kind = 6
     ·
      subst c6;go_enter Tryz.func73, Tryz.ntmps73;go_wp2
      go_region
      all_goals go_wp2
      all_goals go_ret
      all_goals exact ⟨rfl, Yw ((Below.refl _ _).alloc (Nat.le_refl _) _), fun _ => (heap_alloc_new w _).trans rfl⟩
     ·
      by_cases c10 : kind = 10
      ·
       subst c10;go_enter Tryz.func73, Tryz.ntmps73;go_wp2
       go_region
       all_goals go_wp2
       all_goals go_ret
       all_goals exact ⟨rfl, Yw ((Below.refl _ _).alloc (Nat.le_refl _) _), fun _ => (heap_alloc_new w _).trans rfl⟩
      ·
       have b0 : (kind == 0) = false := beq_eq_false_iff_ne.mpr c0;have b9 : (kind == 9) = false := beq_eq_false_iff_ne.mpr c9;have b3 : (kind == 3) = false := beq_eq_false_iff_ne.mpr c3;have b5 : (kind == 5) = false := beq_eq_false_iff_ne.mpr c5;have b6 : (kind == 6) = false := beq_eq_false_iff_ne.mpr c6;have b10 : (kind == 10) = false := beq_eq_false_iff_ne.mpr c10;have e : nameOffs kind = [] := by
        unfold nameOffs;rw [if_neg (by omega), if_neg (by omega), if_neg c6, if_neg c10]
       rw [e];clear e c0 c9 c3 c5 c6 c10;go_enter Tryz.func73, Tryz.ntmps73;go_wp2
       go_ret;exact ⟨rfl, Below.refl _ _, fun h => by simp at h⟩
def RevPost (g : Nat) (ps : List Value) (w : World) (e : Ending) (w' : World) : Prop :=
 e = .returned (.tuple #[]) ∧ (∀ B, B ≤ g → Below B w w') ∧ KeepBut w w' g none ∧ (0 < ps.length → w'.heap[g]? = some (.cells ps.reverse.toArray 79 (0, 0)))
theorem zln {g : Nat} {ps : List Value} {w w' : World} (h : w.heap[g]? = some (.cells ps.toArray 79 (0, 0))) (u0 u1 : Value) (i j m : Nat) (e : ((ps.toArray.setIfInBounds i u0).setIfInBounds j u1) = ps.reverse.toArray)
  (hw : w' = ((w.drewN m).setCell ⟨g, i, none⟩ u0).setCell ⟨g, j, none⟩ u1) : RevPost g ps w (.returned (.tuple #[])) w' := by
 subst hw;refine ⟨rfl, fun B hB => ((zg (Below.refl _ _) m).setCell hB _).setCell hB _, ((Vs (KeepBut.refl _ _ _) m).set_ _ _).set_ _ _, fun _ => ?_⟩;have h1 : (w.drewN m).heap[g]? = some (.cells ps.toArray 79 (0, 0)) := h;rw [Xz (Xz h1 i u0) j u1, e]
set_option maxRecDepth 100000 in
set_option maxHeartbeats 4000000 in
theorem zmp (g : Nat) (ps : List Value) (w : World) (hn : ps.length ≤ 3) (hp : ∀ p ∈ ps, ∃ a : Addr, p = .pointer (some a)) (hb : 0 < ps.length → w.heap[g]? = some (.cells ps.toArray 79 (0, 0))) :
  Calls Tryz.prog 74 #[.slice (ptrOf g ps.length) ps.length ps.length] w (RevPost g ps w) := by
 match ps, hn, hp, hb with
 | [], _, _, _ =>
  show Calls Tryz.prog 74 #[.slice none 0 0] w _;go_enter Tryz.func74, Tryz.ntmps74;go_wp2
  refine wp_loop_rounds 1 ?_;rw [rounds_succ];go_wp2
  go_end0;exact ⟨rfl, fun B _ => Below.refl _ _, KeepBut.refl _ _ _, fun h => by simp at h⟩
 | [p0], _, hp, hb =>
  have h0 := hb (by simp);clear hb hp;show Calls Tryz.prog 74 #[.slice (some ⟨g, 0, none⟩) 1 1] w _;go_enter Tryz.func74, Tryz.ntmps74;go_wp2
  refine wp_loop_rounds 1 ?_;rw [rounds_succ];go_wp2
  go_end0;exact ⟨rfl, fun B _ => Below.refl _ _, KeepBut.refl _ _ _, fun _ => h0⟩
 | [p0, p1], _, hp, hb =>
  have h0 := hb (by simp);obtain ⟨a0, rfl⟩ := hp p0 (by simp);obtain ⟨a1, rfl⟩ := hp p1 (by simp);clear hb hp;have c0 : w.cell? ⟨g, 0, none⟩ = some (.pointer (some a0)) := yc h0 0;have c1 : w.cell? ⟨g, 1, none⟩ = some (.pointer (some a1)) := yc h0 1;have f0 : w.frozen? ⟨g, 0, none⟩ = false := zx h0 0;have f1 : w.frozen? ⟨g, 1, none⟩ = false := zx h0 1;have H0 := zf.mk h0;clear h0;show Calls Tryz.prog 74 #[.slice (some ⟨g, 0, none⟩) 2 2] w _;go_enter Tryz.func74, Tryz.ntmps74;go_wp2
  refine wp_loop_rounds 2 ?_;rw [rounds_succ];go_wp2
  go_region
  all_goals go_wp2
  all_goals rw [rounds_succ]
  all_goals go_wp2
  all_goals go_end0
  all_goals exact zln H0.out _ _ 0 1 1 rfl rfl
 | [p0, p1, p2], _, hp, hb =>
  have h0 := hb (by simp);obtain ⟨a0, rfl⟩ := hp p0 (by simp);obtain ⟨a2, rfl⟩ := hp p2 (by simp);clear hb hp;have c0 : w.cell? ⟨g, 0, none⟩ = some (.pointer (some a0)) := yc h0 0;have c2 : w.cell? ⟨g, 2, none⟩ = some (.pointer (some a2)) := yc h0 2;have f0 : w.frozen? ⟨g, 0, none⟩ = false := zx h0 0;have f2 : w.frozen? ⟨g, 2, none⟩ = false := zx h0 2;have H0 := zf.mk h0;clear h0;show Calls Tryz.prog 74 #[.slice (some ⟨g, 0, none⟩) 3 3] w _;go_enter Tryz.func74, Tryz.ntmps74;go_wp2
  refine wp_loop_rounds 2 ?_;rw [rounds_succ];go_wp2
  go_region
  all_goals go_wp2
  all_goals rw [rounds_succ]
  all_goals go_wp2
  all_goals go_end0
  all_goals exact zln H0.out _ _ 0 2 1 rfl rfl
def goB (g : Int → Option Int) : List Int → Int → Option Int
 | [], a => some a
 | c :: cs, a => if wrap64 (a - 1) < 0 then some (-1) else if c = wrap64 (a - 1) then (g (wrap64 (a - 1))).bind fun r => if r < 0 then some (-1) else goB g cs r else some (-1)
def Y4.f : Nat → List S44 → Int → Option Int
 | 0, _, _ => none
 | k + 1, l, a => if 0 ≤ a then (if a < (l.length : Int) then goB (Y4.f k l) (kidsOf (zl l a)).reverse a else none) else none
theorem zp3 {g g' : Int → Option Int} (h : ∀ x, LeO (g x) (g' x)) : ∀ cs a, LeO (goB g cs a) (goB g' cs a)
 | [], a => LeO.refl _
 | c :: cs, a => by
  unfold goB;exact LeO.ite (LeO.refl _) (LeO.ite (LeO.bind (h _) fun r => LeO.ite (LeO.refl _) (zp3 h cs r)) (LeO.refl _))
theorem Y4.mono : ∀ a0 a1 k, LeO (Y4.f k a0 a1) (Y4.f (k + 1) a0 a1) := by
 intro l a k;induction k generalizing a with
 | zero => exact fun r h => by simp [Y4.f] at h
 | succ k ih =>
  rw [Y4.f, Y4.f];exact LeO.ite (LeO.ite (zp3 (fun x => ih x) _ _) (LeO.none _)) (LeO.none _)
theorem zdg (x : S44) : (kidsOf x).length = kidsN x.f0 := by
 have := zcj x.f0;simp [kidsOf];omega
theorem zbs (b o n : Nat) : (fieldPtrs b o n).length = n := by simp [fieldPtrs]
theorem zmq (b o n : Nat) : ∀ p ∈ fieldPtrs b o n, ∃ a : Addr, p = .pointer (some a) := by
 intro p hp;simp only [fieldPtrs, List.mem_map] at hp;obtain ⟨j, _, rfl⟩ := hp;exact ⟨_, rfl⟩
theorem zcc (b o n j : Nat) (h : j < n) : (fieldPtrs b o n)[j]? = some (.pointer (some ⟨b, o + j, none⟩)) := by simp [fieldPtrs, h]
theorem zmr (b o n i : Nat) (h : i < n) : (fieldPtrs b o n).reverse.toArray[i]? = some (.pointer (some ⟨b, o + (n - 1 - i), none⟩)) := by
 rw [List.getElem?_toArray, List.getElem?_reverse (by rw [zbs]; exact h), zbs];exact zcc _ _ _ _ (by omega)
theorem zha {α : Type} {l : List α} {i : Nat} {c : α} (h : l[i]? = some c) : c :: l.drop (i + 1) = l.drop i := by
 obtain ⟨hi, rfl⟩ := List.getElem?_eq_some_iff.1 h;exact (List.drop_eq_getElem_cons hi).symm
theorem node_cells {w : World} {g : Nat} (x : S44) (h : w.heap[g]? = some (.cells #[.int .i64 x.f0, .int .i64 x.f1, .int .i64 x.f2, .int .i64 x.f3, .int .i64 x.f4, .string x.f5, .string x.f6, .string x.f7, .string x.f8, .int .i64 x.f9] 44 (0, 0))) (j : Nat) (c : Int) (hj : (kidsOf x)[j]? = some c) :
  w.cell? ⟨g, 1 + j, none⟩ = some (.int .i64 c) := by
 have hl : j < 3 := by
  have := (List.getElem?_eq_some_iff.1 hj).1;rw [zdg] at this;have := zcj x.f0;omega
 have hk : ([x.f1, x.f2, x.f3] : List Int)[j]? = some c := by
  unfold kidsOf at hj;rw [List.getElem?_take] at hj;split at hj
  ·
   exact hj
  ·
   cases hj
 have e : ∀ j, w.cell? ⟨g, 1 + j, none⟩ = _ := fun j => yc h (1 + j)
 rw [e j];match j, hl, hk with
 | 0, _, hk => simp at hk; subst hk; rfl
 | 1, _, hk => simp at hk; subst hk; rfl
 | 2, _, hk => simp at hk; subst hk; rfl
set_option maxRecDepth 100000 in
set_option maxHeartbeats 8000000 in
theorem Y4.calls (k : Nat) : ∀ (A0 : Option Addr) (c0 : Nat) (l0 : List (S44)) (a1 : Int) (r : Int) (w : World) (hr0 : Kd.C k44 w A0 l0.length l0) (hc0 : l0.length ≤ c0) (h : Y4.f k l0 a1 = some r),
  Calls Tryz.prog 54 #[.slice A0 l0.length c0, .int .i64 a1] w fun e w' => e = .returned (.int .i64 r) ∧ Below w.heap.size w w' := by
 induction k with
 | zero => intro A0 c0 l0 a1 r w hr0 hc0 h; exact absurd h (by simp [Y4.f])
 | succ k ih =>
  intro A0 c0 l0 a1 r w hr0 hc0 h;rw [Y4.f] at h;by_cases h0 : 0 ≤ a1
  ·
   rw [if_pos h0] at h;by_cases h1 : a1 < (l0.length : Int)
   ·
    rw [if_pos h1] at h;obtain ⟨ad, e157, hx0, hx1, hx2, hx3, hx4, hx5, hx6, hx7, hx8, hx9⟩ := zbr hr0 a1 h0 h1;cases e157;have H := zf.mk h;have HC := zf.mk hr0;have HL := zf.mk hc0;clear h hr0 hc0;generalize hX : zl l0 a1 = x at *;have HX := zf.mk hX;clear hX;go_enter Tryz.func54, Tryz.ntmps54;go_wp2_with fail
    refine (zck w.heap.size 0 x.f0 _ (by simp)).mono ?_;rintro e w1 ⟨rfl, hb1, hp1⟩;have hz : (w.alloc (.cells #[.int .i64 x.f0, .int .i64 x.f1, .int .i64 x.f2, .int .i64 x.f3, .int .i64 x.f4, .string x.f5, .string x.f6, .string x.f7, .string x.f8, .int .i64 x.f9] 44)).heap.size = w.heap.size + 1 := by simp
    have hB1 : Below w.heap.size w w1 := (((Below.refl _ _).alloc (Nat.le_refl _) _)).trans (hb1.mono (by omega));have hnode : w1.heap[w.heap.size]? = some (.cells #[.int .i64 x.f0, .int .i64 x.f1, .int .i64 x.f2, .int .i64 x.f3, .int .i64 x.f4, .string x.f5, .string x.f6, .string x.f7, .string x.f8, .int .i64 x.f9] 44 (0, 0)) :=
     (hb1.block w.heap.size (by omega)).trans (heap_alloc_new w _)
    rw [hz] at hp1 ⊢;have hs1 : w.heap.size + 1 ≤ w1.heap.size := by have := hb1.size; omega
    clear hb1 hz;generalize hn : kidsN x.f0 = n at *;have hl := zbs w.heap.size (0 + 1) n;have HN := zf.mk hn;have HB1 := zf.mk hB1;have HNODE := zf.mk hnode;have HP1 := zf.mk hp1;have HL1 := zf.mk hl;have hn3 : n ≤ 3 := by rw [← hn]; exact zcj _
    clear hn hB1 hnode hp1 hl;go_wp2_with fail
    have hrev := zmp (w.heap.size + 1) (fieldPtrs w.heap.size (0 + 1) n) w1 (by rw [HL1.out]; exact hn3) (zmq _ _ _) (by rw [HL1.out]; exact HP1.out);rw [HL1.out] at hrev;refine hrev.mono ?_;rintro e w2 ⟨rfl, hb2, hk2, hp2⟩;rw [HL1.out] at hp2;have HB2 := zf.mk (HB1.out.trans (hb2 w.heap.size (by omega)));have HNODE2 := zf.mk ((hk2.2 w.heap.size (by omega) (by omega) (by simp)).trans HNODE.out);have HP2 := zf.mk hp2;have hs2 : w.heap.size + 1 ≤ w2.heap.size := by have := hk2.1; omega
    clear hb2 hk2 hp2 hrev HB1 HNODE HP1;go_wp2_with fail
    go_loopw [1, 18] (fun v1 v18 wr => ∃ (i : Nat) (at_ : Int), v1 = .int .i64 at_ ∧ v18 = .int .i64 i ∧ i ≤ n ∧ zf (goB (Y4.f k l0) ((kidsOf x).reverse.drop i) at_ = some r) ∧ Below w2.heap.size w2 wr) (fun _ v18 _ => n - (intOf v18).toNat)
    case atStart => exact ⟨0, a1, rfl, rfl, Nat.zero_le _, H, Below.refl _ _⟩
    case round =>
     obtain ⟨i, at_, rfl, rfl, hi, HG, hbr⟩ := hrel;have HBR := zf.mk hbr;clear hbr H;by_cases hlt : i < n
     ·
      have hpA : ptrOf (w.heap.size + 1) n = some ⟨w.heap.size + 1, 0, none⟩ := zdf (by omega);rw [hpA];have hlen : (kidsOf x).length = n := (zdg x).trans HN.out;have hget : ∃ c, (kidsOf x)[n - 1 - i]? = some c := ⟨_, List.getElem?_eq_getElem (by omega)⟩;obtain ⟨c, hc⟩ := hget;have hdrop : (kidsOf x).reverse.drop i = c :: (kidsOf x).reverse.drop (i + 1) := by
       have hr : (kidsOf x).reverse[i]? = some c := by rw [List.getElem?_reverse (by omega), hlen]; exact hc
       rw [← zha hr]
      have c1 : wr.cell? ⟨w.heap.size, 1 + (n - 1 - i), none⟩ = some (.int .i64 c) := (HBR.out.cell (p := ⟨w.heap.size, 1 + (n - 1 - i), none⟩) (by show w.heap.size < _; omega)).trans (node_cells x HNODE2.out (n - 1 - i) c hc);have c2 : wr.cell? ⟨w.heap.size + 1, i, none⟩ = some (.pointer (some ⟨w.heap.size, 1 + (n - 1 - i), none⟩)) := by
       have hh := Yp (HP2.out (by omega));rw [HBR.out.cell (p := ⟨w.heap.size + 1, i, none⟩) (by show w.heap.size + 1 < _; omega), yc (HP2.out (by omega)) i];exact zmr _ _ _ _ hlt
      have HG' := HG.out;rw [hdrop, goB] at HG';have HD := zf.mk hdrop;clear hdrop hlen HG hc;have hcr : zf (Kd.C k44 wr (some ad) l0.length l0) := ⟨Kd.Zq HC.out (HB2.out.trans (HBR.out.mono (by omega)))⟩;by_cases t1 : wrap64 (at_ - 1) < 0
      ·
       rw [if_pos t1] at HG';obtain rfl := Option.some.inj HG';have t1b : decide (wrap64 (at_ - 1) < 0) = true := decide_eq_true t1;clear t1 HG';go_wp2
       go_ret;exact ⟨rfl, HB2.out.trans (HBR.out.mono (by omega))⟩
      ·
       rw [if_neg t1] at HG';have t1b : decide (wrap64 (at_ - 1) < 0) = false := decide_eq_false t1;clear t1;by_cases t2 : c = wrap64 (at_ - 1)
       ·
        rw [if_pos t2] at HG';have t2b : (c != wrap64 (at_ - 1)) = false := by rw [t2]; simp
        clear t2;replace HG' := Option.bind_eq_some_iff.mp HG';obtain ⟨r1, hr1, HG'⟩ := HG';have HR1 := zf.mk hr1;clear hr1;by_cases t3 : r1 < 0
        ·
         rw [if_pos t3] at HG';obtain rfl := Option.some.inj HG';have t3b : decide (r1 < 0) = true := decide_eq_true t3;clear t3 HG';go_wp2_with (go_at_call 54; (with_reducible refine (ih (some ad) c0 l0 (wrap64 (at_ - 1)) r1 _ hcr.out HL.out HR1.out).mono ?_); rintro e w3 ⟨rfl, hb3⟩; have HB3 := zf.mk hb3; clear hb3)
         go_ret;exact ⟨rfl, HB2.out.trans ((HBR.out.mono (by omega)).trans (HB3.out.mono (by have := HBR.out.size; omega)))⟩
        ·
         rw [if_neg t3] at HG';have HG2 := zf.mk HG';have t3b : decide (r1 < 0) = false := decide_eq_false t3;clear t3 HG';go_wp2_with (go_at_call 54; (with_reducible refine (ih (some ad) c0 l0 (wrap64 (at_ - 1)) r1 _ hcr.out HL.out HR1.out).mono ?_); rintro e w3 ⟨rfl, hb3⟩; have HB3 := zf.mk hb3; clear hb3)
         go_roundw
         case rel => exact ⟨i + 1, r1, rfl, by go_num, by omega, HG2, HBR.out.trans (HB3.out.mono (HBR.out.size))⟩
         case measure => simp [intOf]; omega
       ·
        rw [if_neg t2] at HG';obtain rfl := Option.some.inj HG';have t2b : (c != wrap64 (at_ - 1)) = true := by simpa using t2
        clear t2 HG';go_wp2
        go_ret;exact ⟨rfl, HB2.out.trans (HBR.out.mono (by omega))⟩
     ·
      have hin : i = n := by omega
      have HG' := HG.out;rw [List.drop_eq_nil_of_le (by rw [List.length_reverse, zdg, HN.out]; omega), goB] at HG';obtain rfl := Option.some.inj HG';clear HG' HG hin;go_wp2
      go_ret;exact ⟨rfl, HB2.out.trans (HBR.out.mono (by omega))⟩
   ·
    rw [if_neg h1] at h; cases h
  ·
   rw [if_neg h0] at h; cases h
attribute [local go_sem high] zlm
def namesOf (x : S44) : List ByteArray := if x.f0 = 0 ∨ x.f0 = 9 then [x.f5] else if x.f0 = 3 ∨ x.f0 = 5 then [x.f6] else if x.f0 = 6 then [x.f6, x.f7] else if x.f0 = 10 then [x.f5, x.f6, x.f7, x.f8] else []
def noNames (x : S44) : S44 := if x.f0 = 0 ∨ x.f0 = 9 then { x with f5 := ⟨#[]⟩ } else if x.f0 = 3 ∨ x.f0 = 5 then { x with f6 := ⟨#[]⟩ } else if x.f0 = 6 then { x with f6 := ⟨#[]⟩, f7 := ⟨#[]⟩ } else if x.f0 = 10 then { x with f5 := ⟨#[]⟩, f6 := ⟨#[]⟩, f7 := ⟨#[]⟩, f8 := ⟨#[]⟩ } else x
def noKids (x : S44) : S44 := match kidsN x.f0 with
 | 0 => x
 | 1 => { x with f1 := 0 }
 | 2 => { x with f1 := 0, f2 := 0 }
 | _ => { x with f1 := 0, f2 := 0, f3 := 0 }
def noNum (x : S44) : S44 := { x with f4 := 0 }
def bareNode (x : S44) : Bool := x.f1 == 0 && (x.f2 == 0 && (x.f3 == 0 && (x.f4 == 0 && (x.f5.toList.isEmpty && (x.f6.toList.isEmpty && (x.f7.toList.isEmpty && x.f8.toList.isEmpty))))))
def goN (k : Nat) : List ByteArray → Option Bool
 | [] => some true
 | s :: ss => (Xv.f k s).bind fun b => if b = true then goN k ss else some false
def za3.f (k : Nat) (Zb xy vz Zl Za : Int) (Zh Zf Zi Zk : ByteArray) (yx : Int) (a1 : Bool) : Option Bool :=
  if Zb < 0 then some false else if Zb > 10 then some false else if yx < 0 then some false else if yx > 4096 then some false else
  (zc3.f Zb).bind fun n => if 0 ≤ n ∧ (Za < 0 ∨ n < Za) then some false else
    (if a1 = true then goN k (namesOf ⟨Zb, xy, vz, Zl, Za, Zh, Zf, Zi, Zk, yx⟩) else some true).bind fun ok => if ok = true then
      (let y := noKids (if a1 = true then noNames ⟨Zb, xy, vz, Zl, Za, Zh, Zf, Zi, Zk, yx⟩ else ⟨Zb, xy, vz, Zl, Za, Zh, Zf, Zi, Zk, yx⟩)
       some (bareNode (if 0 ≤ n ∨ (a1 = false ∧ (Zb = 0 ∨ Zb = 9 ∨ Zb = 10)) then noNum y else y))) else some false
theorem zp4 (k : Nat) : ∀ ss, LeO (goN k ss) (goN (k + 1) ss)
 | [] => LeO.refl _
 | s :: ss => by
  unfold goN;exact LeO.bind (Xv.mono s k) fun b => LeO.ite (zp4 k ss) (LeO.refl _)
theorem za3.mono : ∀ a0 a1 a2 a3 a4 a5 a6 a7 a8 a9 a10 k, LeO (za3.f k a0 a1 a2 a3 a4 a5 a6 a7 a8 a9 a10) (za3.f (k + 1) a0 a1 a2 a3 a4 a5 a6 a7 a8 a9 a10) := by
 intro a0 a1 a2 a3 a4 a5 a6 a7 a8 a9 a10 k;unfold za3.f;refine LeO.ite (LeO.refl _) (LeO.ite (LeO.refl _) (LeO.ite (LeO.refl _) (LeO.ite (LeO.refl _) (LeO.bind (LeO.refl _) fun n => LeO.ite (LeO.refl _) (LeO.bind (LeO.ite (zp4 k _) (LeO.refl _)) fun ok => LeO.refl _)))))
def cellsOf (x : S44) : Array Value := #[.int .i64 x.f0, .int .i64 x.f1, .int .i64 x.f2, .int .i64 x.f3, .int .i64 x.f4, .string x.f5, .string x.f6, .string x.f7, .string x.f8, .int .i64 x.f9]
def clr (v : Value) (cs : Array Value) (l : List Nat) : Array Value := l.foldl (fun c p => c.setIfInBounds p v) cs
theorem zp5 (v : Value) (cs : Array Value) (l : List Nat) (i p : Nat) (h : l[i]? = some p) : (clr v cs (l.take i)).setIfInBounds p v = clr v cs (l.take (i + 1)) := by
 obtain ⟨hi, rfl⟩ := List.getElem?_eq_some_iff.1 h;unfold clr;rw [List.take_succ_eq_append_getElem hi, List.foldl_append];rfl
theorem zt9 (x : S44) : clr (.string ⟨#[]⟩) (cellsOf x) (nameOffs x.f0) = cellsOf (noNames x) := by
 unfold nameOffs noNames;repeat' split
 all_goals rfl
theorem zol (x : S44) : (noNames x).f0 = x.f0 := by
 unfold noNames;repeat' split
 all_goals rfl
theorem clr_kids (x : S44) : clr (.int .i64 0) (cellsOf x) ((List.range (kidsN x.f0)).map (0 + 1 + ·)) = cellsOf (noKids x) := by
 have h := zcj x.f0;unfold noKids;match hk : kidsN x.f0, h with
 | 0, _ => rfl
 | 1, _ => rfl
 | 2, _ => rfl
 | 3, _ => rfl
theorem zp6 (x : S44) : (noKids x).f0 = x.f0 := by
 unfold noKids;split <;> rfl
theorem zua (x : S44) : (namesOf x).length = (nameOffs x.f0).length := by
 unfold namesOf nameOffs;repeat' split
 all_goals rfl
theorem names_at (x : S44) (i p : Nat) (hp : (nameOffs x.f0)[i]? = some p) : ∃ s, (namesOf x)[i]? = some s ∧ (clr (.string ⟨#[]⟩) (cellsOf x) ((nameOffs x.f0).take i))[p]? = some (.string s) := by
 unfold nameOffs namesOf at *;by_cases c1 : x.f0 = 0 ∨ x.f0 = 9
 ·
  rw [if_pos c1] at hp ⊢;rw [if_pos c1];match i, hp with
  | 0, hp => simp at hp; subst hp; exact ⟨_, rfl, rfl⟩
  | i + 1, hp => simp at hp
 ·
  rw [if_neg c1] at hp ⊢;rw [if_neg c1];by_cases c2 : x.f0 = 3 ∨ x.f0 = 5
  ·
   rw [if_pos c2] at hp ⊢;rw [if_pos c2];match i, hp with
   | 0, hp => simp at hp; subst hp; exact ⟨_, rfl, rfl⟩
   | i + 1, hp => simp at hp
  ·
   rw [if_neg c2] at hp ⊢;rw [if_neg c2];by_cases c3 : x.f0 = 6
   ·
    rw [if_pos c3] at hp ⊢;rw [if_pos c3];match i, hp with
    | 0, hp => simp at hp; subst hp; exact ⟨_, rfl, rfl⟩
    | 1, hp => simp at hp; subst hp; exact ⟨_, rfl, rfl⟩
    | i + 2, hp => simp at hp
   ·
    rw [if_neg c3] at hp ⊢;rw [if_neg c3];by_cases c4 : x.f0 = 10
    ·
     rw [if_pos c4] at hp ⊢;rw [if_pos c4];match i, hp with
     | 0, hp => simp at hp; subst hp; exact ⟨_, rfl, rfl⟩
     | 1, hp => simp at hp; subst hp; exact ⟨_, rfl, rfl⟩
     | 2, hp => simp at hp; subst hp; exact ⟨_, rfl, rfl⟩
     | 3, hp => simp at hp; subst hp; exact ⟨_, rfl, rfl⟩
     | i + 4, hp => simp at hp
    ·
     rw [if_neg c4] at hp;simp at hp
theorem zp7 (kind : Int) (i p : Nat) (h : (nameOffs kind)[i]? = some p) : 1 ≤ p ∧ p < 10 := by
 have hm := List.mem_of_getElem? h;unfold nameOffs at hm;repeat' split at hm
 all_goals simp at hm
 all_goals omega
theorem clr_size (v : Value) (cs : Array Value) (l : List Nat) : (clr v cs l).size = cs.size := by
 unfold clr;induction l generalizing cs with
 | nil => rfl
 | cons p l ih => rw [List.foldl_cons, ih]; simp
theorem zp8 (b i n : Nat) (h : i < n) : ((List.range n).map (0 + 1 + ·))[i]? = some (0 + 1 + i) := by simp [h]
def MayTail (y : S44) (num : Bool) : Bool := bareNode (if num = true then noNum (noKids y) else noKids y)
set_option maxRecDepth 100000 in
set_option maxHeartbeats 8000000 in
theorem za3.calls (k : Nat) (Zb xy vz Zl Za : Int) (Zh Zf Zi Zk : ByteArray) (yx : Int) (a1 : Bool) (r : Bool) (w : World) (h : za3.f k Zb xy vz Zl Za Zh Zf Zi Zk yx a1 = some r) :
  Calls Tryz.prog 53 #[.agg #[.int .i64 Zb, .int .i64 xy, .int .i64 vz, .int .i64 Zl, .int .i64 Za, .string Zh, .string Zf, .string Zi, .string Zk, .int .i64 yx], .bool a1] w fun e w' => e = .returned (.bool r) ∧ Below w.heap.size w w' := by
 unfold za3.f at h;by_cases c1 : Zb < 0
 ·
  rw [if_pos c1] at h;obtain rfl := Option.some.inj h;have b1 : decide (Zb < 0) = true := decide_eq_true c1;clear h c1;go_enter Tryz.func53, Tryz.ntmps53;go_wp2
  go_ret;exact ⟨rfl, (Below.refl _ _).alloc (Nat.le_refl _) _⟩
 ·
  rw [if_neg c1] at h;have b1 : decide (Zb < 0) = false := decide_eq_false c1;by_cases c2 : Zb > 10
  ·
   rw [if_pos c2] at h;obtain rfl := Option.some.inj h;have b2 : decide (10 < Zb) = true := decide_eq_true c2;clear h c1 c2;go_enter Tryz.func53, Tryz.ntmps53;go_wp2
   go_ret;exact ⟨rfl, (Below.refl _ _).alloc (Nat.le_refl _) _⟩
  ·
   rw [if_neg c2] at h;have b2 : decide (10 < Zb) = false := decide_eq_false c2;by_cases c3 : yx < 0
   ·
    rw [if_pos c3] at h;obtain rfl := Option.some.inj h;have b3 : decide (yx < 0) = true := decide_eq_true c3;clear h c1 c2 c3;go_enter Tryz.func53, Tryz.ntmps53;go_wp2
    go_ret;exact ⟨rfl, (Below.refl _ _).alloc (Nat.le_refl _) _⟩
   ·
    rw [if_neg c3] at h;have b3 : decide (yx < 0) = false := decide_eq_false c3;by_cases c4 : yx > 4096
    ·
     rw [if_pos c4] at h;obtain rfl := Option.some.inj h;have b4 : decide (4096 < yx) = true := decide_eq_true c4;clear h c1 c2 c3 c4;go_enter Tryz.func53, Tryz.ntmps53;go_wp2
     go_ret;exact ⟨rfl, (Below.refl _ _).alloc (Nat.le_refl _) _⟩
    ·
     rw [if_neg c4] at h;have b4 : decide (4096 < yx) = false := decide_eq_false c4;clear c1 c2 c3 c4;replace h := Option.bind_eq_some_iff.mp h;obtain ⟨n, hn, h⟩ := h;have HM := zf.mk hn;clear hn;by_cases c5 : 0 ≤ n ∧ (Za < 0 ∨ n < Za)
     ·
      rw [if_pos c5] at h;obtain rfl := Option.some.inj h;have b5 : decide (0 ≤ n) = true := decide_eq_true c5.1;have c5' := c5.2;clear h c5;by_cases c6 : Za < 0
      ·
       have b6 : decide (Za < 0) = true := decide_eq_true c6;clear c6 c5';go_enter Tryz.func53, Tryz.ntmps53;go_wp2_with (go_at_call 72; (with_reducible refine (zc3.calls Zb n _ HM.out).mono ?_); rintro e w' ⟨rfl, ⟨nd, rfl⟩⟩)
       go_ret;exact ⟨rfl, zg ((Below.refl _ _).alloc (Nat.le_refl _) _) _⟩
      ·
       have b6 : decide (Za < 0) = false := decide_eq_false c6;have b7 : decide (n < Za) = true := decide_eq_true (by omega);clear c6 c5';go_enter Tryz.func53, Tryz.ntmps53;go_wp2_with (go_at_call 72; (with_reducible refine (zc3.calls Zb n _ HM.out).mono ?_); rintro e w' ⟨rfl, ⟨nd, rfl⟩⟩)
       go_ret;exact ⟨rfl, zg ((Below.refl _ _).alloc (Nat.le_refl _) _) _⟩
     ·
      rw [if_neg c5] at h;have hx : cellsOf ⟨Zb, xy, vz, Zl, Za, Zh, Zf, Zi, Zk, yx⟩ = #[.int .i64 Zb, .int .i64 xy, .int .i64 vz, .int .i64 Zl, .int .i64 Za, .string Zh, .string Zf, .string Zi, .string Zk, .int .i64 yx] := rfl;have hx0 : (⟨Zb, xy, vz, Zl, Za, Zh, Zf, Zi, Zk, yx⟩ : S44).f0 = Zb := rfl;generalize (⟨Zb, xy, vz, Zl, Za, Zh, Zf, Zi, Zk, yx⟩ : S44) = x at *;have HX := zf.mk hx;have HX0 := zf.mk hx0;have C5 := zf.mk c5;have H := zf.mk h;clear h c5 hx hx0;by_cases c6 : 0 ≤ n;case' pos =>
       have b5 : decide (0 ≤ n) = true := decide_eq_true c6;have b6 : decide (Za < 0) = false := decide_eq_false (fun h => C5.out ⟨c6, .inl h⟩);have b7 : decide (n < Za) = false := decide_eq_false (fun h => C5.out ⟨c6, .inr h⟩)
      case' neg =>
       have b5 : decide (0 ≤ n) = false := decide_eq_false c6
      all_goals
       have C6 := zf.mk c6;clear c6;cases a1;case' false =>
        have HO := zf.mk (show some (MayTail x (decide (0 ≤ n) || (decide (Zb = 0 ∨ Zb = 9 ∨ Zb = 10)))) = some r by
         have h := H.out;simp only [Bool.false_eq_true, if_false, Option.bind_some, if_true] at h;rw [← h, MayTail];by_cases q1 : 0 ≤ n <;> by_cases q2 : (Zb = 0 ∨ Zb = 9 ∨ Zb = 10) <;> simp [q1, q2])
        have HQ := zf.mk (show Yt.f Zb = some (decide (Zb = 0 ∨ Zb = 9 ∨ Zb = 10)) by
         unfold Yt.f;by_cases q0 : Zb = 0
         ·
          simp [q0]
         ·
          by_cases q9 : Zb = 9
          ·
           simp [q9]
          ·
           by_cases q10 : Zb = 10 <;> simp [q0, q9, q10])
        generalize decide (Zb = 0 ∨ Zb = 9 ∨ Zb = 10) = qb at *;clear H;go_enter Tryz.func53, Tryz.ntmps53;go_wp2_with (go_at_call 72; (with_reducible refine (zc3.calls Zb n _ HM.out).mono ?_); rintro e w' ⟨rfl, ⟨nd, rfl⟩⟩)
        have HY := zf.mk (show ((w.alloc (.cells #[.int .i64 Zb, .int .i64 xy, .int .i64 vz, .int .i64 Zl, .int .i64 Za, .string Zh, .string Zf, .string Zi, .string Zk, .int .i64 yx] 44)).drewN nd).heap[w.heap.size]? = some (.cells (cellsOf x) 44 (0, 0)) by rw [HX.out]; exact heap_alloc_new w _);have HBW := zf.mk (show Below w.heap.size w ((w.alloc (.cells #[.int .i64 Zb, .int .i64 xy, .int .i64 vz, .int .i64 Zl, .int .i64 Za, .string Zh, .string Zf, .string Zi, .string Zk, .int .i64 yx] 44)).drewN nd) from zg ((Below.refl _ _).alloc (Nat.le_refl _) _) _);generalize ((w.alloc (.cells #[.int .i64 Zb, .int .i64 xy, .int .i64 vz, .int .i64 Zl, .int .i64 Za, .string Zh, .string Zf, .string Zi, .string Zk, .int .i64 yx] 44)).drewN nd) = wr at *;have HY0 := HX0;clear HX;generalize x = y at *
       case' true =>
        have h := H.out;simp only [if_true] at h;replace h := Option.bind_eq_some_iff.mp h;obtain ⟨ok, hok, h⟩ := h;have HOK := zf.mk hok;have H2 := zf.mk h;clear H h hok;go_enter Tryz.func53, Tryz.ntmps53;go_wp2_with (first | (go_at_call 72; (with_reducible refine (zc3.calls Zb n _ HM.out).mono ?_); rintro e w' ⟨rfl, ⟨nd, rfl⟩⟩))
        refine (zp2 w.heap.size Zb _ (by simp)).mono ?_;rintro e w1 ⟨rfl, hb1, hp1⟩;have hz : ((w.alloc (.cells #[.int .i64 Zb, .int .i64 xy, .int .i64 vz, .int .i64 Zl, .int .i64 Za, .string Zh, .string Zf, .string Zi, .string Zk, .int .i64 yx] 44)).drewN nd).heap.size = w.heap.size + 1 := by simp
        have HB1 := zf.mk (show Below w.heap.size w w1 from (zg ((Below.refl _ _).alloc (Nat.le_refl _) _) nd).trans (hb1.mono (by omega)));have HN1 := zf.mk (show w1.heap[w.heap.size]? = some (.cells (cellsOf x) 44 (0, 0)) by rw [hb1.block w.heap.size (by omega), HX.out]; exact heap_alloc_new w _);rw [hz] at hp1 ⊢;have hs1 : w.heap.size + 1 ≤ w1.heap.size := by have := hb1.size; omega
        have HP1 := zf.mk hp1;clear hb1 hz hp1;generalize hm : (nameOffs Zb).length = m at *;have HMM := zf.mk hm;have hm4 : m ≤ 4 := by
         rw [← hm];unfold nameOffs;repeat' split
         all_goals decide
        clear hm;go_wp2_with fail
        go_loopw [47] (fun v47 wr => ∃ (i : Nat), v47 = .int .i64 i ∧ i ≤ m ∧ zf (goN k ((namesOf x).drop i) = some ok) ∧ zf (wr.heap[w.heap.size]? = some (.cells (clr (.string ⟨#[]⟩) (cellsOf x) ((nameOffs Zb).take i)) 44 (0, 0))) ∧ zf (0 < m → wr.heap[w.heap.size + 1]? = some (.cells (namePtrs w.heap.size (nameOffs Zb)).toArray 114 (0, 0))) ∧ zf (Below w.heap.size w wr)) (fun v47 _ => m - (intOf v47).toNat)
        case atStart => exact ⟨0, rfl, Nat.zero_le _, HOK, HN1, HP1, HB1⟩
        case' round =>
         obtain ⟨i, rfl, hi, HG, HC, HP, HBR⟩ := hrel;clear HOK HN1 HP1 HB1;by_cases hlt : i < m;case' pos =>
          have hpA : ptrOf (w.heap.size + 1) m = some ⟨w.heap.size + 1, 0, none⟩ := zdf (by omega);rw [hpA];obtain ⟨p, hp⟩ : ∃ p, (nameOffs Zb)[i]? = some p := ⟨_, List.getElem?_eq_getElem (by rw [HMM.out]; exact hlt)⟩;have hpb := zp7 Zb i p hp;obtain ⟨s, hs, hcell⟩ := names_at x i p (by rw [HX0.out]; exact hp);rw [HX0.out] at hcell;have c1 : wr.cell? ⟨w.heap.size, p, none⟩ = some (.string s) := by rw [yc HC.out p]; exact hcell
          have f1 : wr.frozen? ⟨w.heap.size, p, none⟩ = false := zx HC.out p;have c2 : wr.cell? ⟨w.heap.size + 1, i, none⟩ = some (.pointer (some ⟨w.heap.size, p, none⟩)) := by
           rw [yc (HP.out (by omega)) i, List.getElem?_toArray];simp [namePtrs, hp]
          have hg := HG.out;rw [← zha hs, goN] at hg;replace hg := Option.bind_eq_some_iff.mp hg;obtain ⟨b, hb, hg⟩ := hg;have HNM := zf.mk hb;have HG2 := zf.mk hg;have HPI := zf.mk hp;have hwl : w.heap.size < wr.heap.size := Yp HC.out;have hwl2 : w.heap.size + 1 < wr.heap.size := Yp (HP.out (by omega));clear hs hcell hp hg hb HG;cases b;case false =>
           have hg := HG2.out;simp only [Bool.false_eq_true, if_false] at hg;obtain rfl := Option.some.inj hg;have h2 := H2.out;simp only [Bool.false_eq_true, if_false] at h2;obtain rfl := Option.some.inj h2;clear hg h2 H2 HG2;go_wp2_with (go_at_call 50; (with_reducible refine (Xv.calls k s false _ HNM.out).mono ?_); rintro e w3 ⟨rfl, hb3⟩; have HB3 := zf.mk hb3; clear hb3)
           go_ret;exact ⟨rfl, HBR.out.trans (HB3.out.mono (by omega))⟩
          case true =>
           have hg := HG2.out;simp only [if_true] at hg;have HG3 := zf.mk hg;clear hg HG2;go_wp2_with (go_at_call 50; (with_reducible refine (Xv.calls k s true _ HNM.out).mono ?_); rintro e w3 ⟨rfl, hb3⟩; have HB3 := zf.mk hb3; have c3 : w3.cell? ⟨w.heap.size, p, none⟩ = some (.string s) := (hb3.cell (p := ⟨w.heap.size, p, none⟩) hwl).trans c1; have f3 : w3.frozen? ⟨w.heap.size, p, none⟩ = false := (hb3.frozen (p := ⟨w.heap.size, p, none⟩) hwl).trans f1; clear hb3)
           go_roundw
           case rel =>
            refine ⟨i + 1, by go_num, by omega, HG3, ⟨?_⟩, ⟨fun _ => ?_⟩, ⟨?_⟩⟩
            ·
             rw [Xz ((HB3.out.block w.heap.size hwl).trans HC.out) p, zp5 _ _ _ _ _ HPI.out]
            ·
             exact Zx ((HB3.out.block (w.heap.size + 1) hwl2).trans (HP.out (by omega))) (by show w.heap.size + 1 ≠ w.heap.size; omega) _
            ·
             exact (HBR.out.trans (HB3.out.mono (by omega))).setCell (Nat.le_refl _) _
           case measure => simp [intOf]; omega
         case' neg =>
          have hin : i = m := by omega
          subst hin;have hg := HG.out;rw [List.drop_eq_nil_of_le (by rw [zua, HX0.out, HMM.out]; exact Nat.le_refl _), goN] at hg;obtain rfl := Option.some.inj hg;have hc := HC.out;rw [List.take_of_length_le (by rw [HMM.out]; exact Nat.le_refl _)] at hc;have hcn := zt9 x;rw [HX0.out] at hcn;rw [hcn] at hc;have HY := zf.mk hc;have HBW := HBR;have HY0 := zf.mk ((zol x).trans HX0.out);have HO := zf.mk (show some (MayTail (noNames x) (decide (0 ≤ n))) = some r by
           have h2 := H2.out;simp only [if_true] at h2;rw [← h2, MayTail];by_cases q1 : 0 ≤ n <;> simp [q1])
          clear hg hc hcn HG HC HP H2 HX HBR;generalize noNames x = y at *;go_wp2_with fail
      all_goals
       have hwl : w.heap.size < wr.heap.size := Yp HY.out;refine (zck w.heap.size 0 Zb wr (by rw [yc HY.out 0, ← HY0.out]; rfl)).mono ?_;rintro e w5 ⟨rfl, hb5, hp5⟩;have HB5 := zf.mk (show Below w.heap.size w w5 from HBW.out.trans (hb5.mono (by omega)));have HY5 := zf.mk ((hb5.block w.heap.size hwl).trans HY.out);have HP5 := zf.mk hp5;have hs5 : wr.heap.size ≤ w5.heap.size := hb5.size;clear hb5 hp5 HBW HY;generalize hg1 : wr.heap.size = g1 at *;generalize hn3 : kidsN Zb = n3 at *;have HN3 := zf.mk hn3;have hn33 : n3 ≤ 3 := by rw [← hn3]; exact zcj _
       clear hg1 hn3;go_wp2_with fail
       go_loopw [61] (fun v61 wr => ∃ (i : Nat), v61 = .int .i64 i ∧ i ≤ n3 ∧ zf (wr.heap[w.heap.size]? = some (.cells (clr (.int .i64 0) (cellsOf y) (((List.range n3).map (0 + 1 + ·)).take i)) 44 (0, 0))) ∧ zf (0 < n3 → wr.heap[g1]? = some (.cells (fieldPtrs w.heap.size (0 + 1) n3).toArray 79 (0, 0))) ∧ zf (Below w.heap.size w wr)) (fun v61 _ => n3 - (intOf v61).toNat)
       case atStart => exact ⟨0, rfl, Nat.zero_le _, HY5, HP5, HB5⟩
       case round =>
        obtain ⟨i, rfl, hi, HC, HP, HBR⟩ := hrel;clear HY5 HP5 HB5;by_cases hlt : i < n3
        ·
         have hpA : ptrOf g1 n3 = some ⟨g1, 0, none⟩ := zdf (by omega);rw [hpA];have hsz := HC.out;have c1 : ∃ v, wr.cell? ⟨w.heap.size, 0 + 1 + i, none⟩ = some v := by
          rw [yc HC.out (0 + 1 + i)];exact ⟨_, Array.getElem?_eq_getElem (by rw [clr_size]; show _ < 10; omega)⟩
         obtain ⟨v, c1⟩ := c1;have f1 : wr.frozen? ⟨w.heap.size, 0 + 1 + i, none⟩ = false := zx HC.out _;have c2 : wr.cell? ⟨g1, i, none⟩ = some (.pointer (some ⟨w.heap.size, 0 + 1 + i, none⟩)) := by
          rw [yc (HP.out (by omega)) i, List.getElem?_toArray];exact zcc _ _ _ _ hlt
         clear hsz;go_wp2
         go_roundw
         case rel =>
          refine ⟨i + 1, by go_num, by omega, ⟨?_⟩, ⟨fun _ => ?_⟩, ⟨?_⟩⟩
          ·
           rw [show (0 + 1 + i) = 0 + 1 + i from rfl, Xz HC.out (0 + 1 + i), zp5 _ _ _ _ _ (zp8 0 i n3 hlt)]
          ·
           exact Zx (HP.out (by omega)) (by show g1 ≠ w.heap.size; omega) _
          ·
           exact HBR.out.setCell (Nat.le_refl _) _
         case measure => simp [intOf]; omega
        ·
         have hin : i = n3 := by omega
         subst hin;have hc := HC.out;rw [List.take_of_length_le (by simp)] at hc;have hck := clr_kids y;rw [HY0.out, HN3.out] at hck;rw [hck] at hc;have hk0 := (zp6 y).trans HY0.out;have ho := HO.out;rw [MayTail] at ho;generalize noKids y = z at *;have d0 : wr.cell? ⟨w.heap.size, 0, none⟩ = some (.int .i64 Zb) := by rw [yc hc 0, ← hk0]; rfl
         have d1 : wr.cell? ⟨w.heap.size, 1, none⟩ = some (.int .i64 z.f1) := yc hc 1;have d2 : wr.cell? ⟨w.heap.size, 2, none⟩ = some (.int .i64 z.f2) := yc hc 2;have d3 : wr.cell? ⟨w.heap.size, 3, none⟩ = some (.int .i64 z.f3) := yc hc 3;have d4 : wr.cell? ⟨w.heap.size, 4, none⟩ = some (.int .i64 z.f4) := yc hc 4;have d5 : wr.cell? ⟨w.heap.size, 5, none⟩ = some (.string z.f5) := yc hc 5;have d6 : wr.cell? ⟨w.heap.size, 6, none⟩ = some (.string z.f6) := yc hc 6;have d7 : wr.cell? ⟨w.heap.size, 7, none⟩ = some (.string z.f7) := yc hc 7;have d8 : wr.cell? ⟨w.heap.size, 8, none⟩ = some (.string z.f8) := yc hc 8;have d9 : wr.cell? ⟨w.heap.size, 9, none⟩ = some (.int .i64 z.f9) := yc hc 9;have f4 : wr.frozen? ⟨w.heap.size, 4, none⟩ = false := zx hc 4;have HO2 := zf.mk ho;clear hc hck hk0 ho HC HO HP;go_wp2_with (go_at_call 55; (with_reducible refine (Yt.calls Zb _ _ HQ.out).mono ?_); rintro e w' ⟨rfl, ⟨nd, rfl⟩⟩)
         all_goals go_ret
         all_goals
          refine ⟨?_, ?_⟩
          ·
           have hr := Option.some.inj HO2.out;rw [← hr, b5];clear hr HO2;first | (simp [bareNode, noNum]; done) | (rename_i hqb; simp [bareNode, noNum, hqb]; done) | (simp [bareNode, noNum, *]; done)
          ·
           first | exact HBR.out.setCell (Nat.le_refl _) _ | exact HBR.out | exact zg HBR.out _ | exact (zg HBR.out _).setCell (Nat.le_refl _) _
mutual
def Yb.j0 : Nat → List (S44) → Bool → Bool → Option (Bool)
 | 0, _, _, _ => none
 | k + 1, x0, x1, x14 => if x14 = true then (some false) else (Yb.l0 k x0 x1 x0 (x0.length : Int) 0)
def Yb.l0 : Nat → List (S44) → Bool → List (S44) → Int → Int → Option (Bool)
 | 0, _, _, _, _, _ => none
 | k + 1, x0, x1, x15, x16, x17 => if x17 < x16 then (if 0 ≤ x17 then (if x17 < (x15.length : Int) then ((za3.f k ((zl x15 x17).f0) ((zl x15 x17).f1) ((zl x15 x17).f2) ((zl x15 x17).f3) ((zl x15 x17).f4) ((zl x15 x17).f5) ((zl x15 x17).f6) ((zl x15 x17).f7) ((zl x15 x17).f8) ((zl x15 x17).f9) x1).bind fun t200 => (if t200 = true then (Yb.l0 k x0 x1 x15 x16 (wrap64 (x17 + 1))) else (some false))) else (none)) else (none)) else ((Y4.f k x0 (wrap64 ((x0.length : Int) - 1))).bind fun t201 => (some (t201 == 0)))
end
def Yb.f (k : Nat) (l0 : List (S44)) (a1 : Bool) : Option (Bool) := if (l0.length : Int) < 1 then (Yb.j0 k l0 a1 true) else (Yb.j0 k l0 a1 (decide ((l0.length : Int) > 512)))
theorem Yb.zci : ∀ k, (∀ y0 y1 y2, LeO (Yb.j0 k y0 y1 y2) (Yb.j0 (k + 1) y0 y1 y2)) ∧ (∀ y0 y1 y2 y3 y4, LeO (Yb.l0 k y0 y1 y2 y3 y4) (Yb.l0 (k + 1) y0 y1 y2 y3 y4))
 | 0 => ⟨fun _ _ _ r h => by simp [Yb.j0] at h, fun _ _ _ _ _ r h => by simp [Yb.l0] at h⟩
 | k + 1 => by
  obtain ⟨ih0, ih1⟩ := Yb.zci k;refine ⟨?_, ?_⟩
  ·
   intro y0 y1 y2;unfold Yb.j0;repeat' first
   | (with_reducible exact ih0 _ _ _)
   | (with_reducible exact ih1 _ _ _ _ _)
   | (with_reducible exact Y4.mono _ _ _)
   | (with_reducible exact za3.mono _ _ _ _ _ _ _ _ _ _ _ _)
   | (with_reducible exact LeO.refl _)
   | (with_reducible exact LeO.none _)
   | (with_reducible refine LeO.ite ?_ ?_)
   | (with_reducible refine LeO.bind ?_ (fun _ => ?_))
   | exact ih0 _ _ _
   | exact ih1 _ _ _ _ _
   | exact Y4.mono _ _ _
   | exact za3.mono _ _ _ _ _ _ _ _ _ _ _ _
   | exact LeO.none _
   | refine LeO.ite ?_ ?_
   | refine LeO.bind ?_ (fun _ => ?_)
  ·
   intro y0 y1 y2 y3 y4;unfold Yb.l0;repeat' first
   | (with_reducible exact ih0 _ _ _)
   | (with_reducible exact ih1 _ _ _ _ _)
   | (with_reducible exact Y4.mono _ _ _)
   | (with_reducible exact za3.mono _ _ _ _ _ _ _ _ _ _ _ _)
   | (with_reducible exact LeO.refl _)
   | (with_reducible exact LeO.none _)
   | (with_reducible refine LeO.ite ?_ ?_)
   | (with_reducible refine LeO.bind ?_ (fun _ => ?_))
   | exact ih0 _ _ _
   | exact ih1 _ _ _ _ _
   | exact Y4.mono _ _ _
   | exact za3.mono _ _ _ _ _ _ _ _ _ _ _ _
   | exact LeO.none _
   | refine LeO.ite ?_ ?_
   | refine LeO.bind ?_ (fun _ => ?_)
theorem Yb.mono : ∀ a0 a1 k, LeO (Yb.f k a0 a1) (Yb.f (k + 1) a0 a1) := by
 intro a0 a1 k;obtain ⟨ih0, ih1⟩ := Yb.zci k;unfold Yb.f;repeat' first
   | (with_reducible exact ih0 _ _ _)
   | (with_reducible exact ih1 _ _ _ _ _)
   | (with_reducible exact Y4.mono _ _ _)
   | (with_reducible exact za3.mono _ _ _ _ _ _ _ _ _ _ _ _)
   | (with_reducible exact LeO.refl _)
   | (with_reducible exact LeO.none _)
   | (with_reducible refine LeO.ite ?_ ?_)
   | (with_reducible refine LeO.bind ?_ (fun _ => ?_))
   | exact ih0 _ _ _
   | exact ih1 _ _ _ _ _
   | exact Y4.mono _ _ _
   | exact za3.mono _ _ _ _ _ _ _ _ _ _ _ _
   | exact LeO.none _
   | refine LeO.ite ?_ ?_
   | refine LeO.bind ?_ (fun _ => ?_)
set_option maxHeartbeats 8000000 in
set_option maxRecDepth 100000 in
theorem Yb.calls (k : Nat) (A0 : Option Addr) (c0 : Nat) (l0 : List (S44)) (a1 : Bool) (r : Bool) (w : World) (hr0 : Kd.C k44 w A0 l0.length l0) (hc0 : l0.length ≤ c0) (h : Yb.f k l0 a1 = some r) :
  Calls Tryz.prog 27 #[.slice A0 l0.length c0, .bool a1] w fun e w' => e = .returned (.bool r) ∧ Below w.heap.size w w' := by
 have hu44 := Tryz.underlying44;have HR0 := zf.mk hr0;have HC0 := zf.mk hc0;clear hr0 hc0;have HB := zf.mk (Below.refl w.heap.size w);have H : (if (l0.length : Int) < 1 then (Yb.j0 k l0 a1 true) else (Yb.j0 k l0 a1 (decide ((l0.length : Int) > 512)))) = some r := h;clear h;have HC3 := zf.mk H;clear H;go_enter Tryz.func27, Tryz.ntmps27;go_upto_region 1 with (fail)
 go_cut [14] (fun v14 wc => ∃ (kq : Nat) (x14_2 : Bool), v14 = .bool x14_2 ∧ zf (Yb.j0 kq l0 a1 x14_2 = some r) ∧ zf (kq ≤ k) ∧ zf (Below w.heap.size w wc))
 case first =>
  have H := HC3.out;clear HC3;by_cases c4 : (l0.length : Int) < 1
  ·
   rw [if_pos c4] at H;have zbn : decide ((l0.length : Int) < 1) = true := decide_eq_true c4;have ze8 : decide (l0.length < 1) = true := decide_eq_true (by omega);clear c4
   (first | rw [zbn] | (simp only [Yy, Y6]; rw [zbn]) | skip)
   have H' := zf.mk H;clear H;go_wp2
   go_meet
   case rel => exact ⟨_, (true), (by first | rfl | (simp; done) | (simp [*]; done)), H', ⟨by first | omega | exact Nat.le_refl _⟩, ⟨by repeat (first | (with_reducible first | exact HB.out | apply zh | apply zg | apply zk) | exact HB.out)⟩⟩
  ·
   rw [if_neg c4] at H;have zbn : decide ((l0.length : Int) < 1) = false := decide_eq_false c4;have ze8 : decide (l0.length < 1) = false := decide_eq_false (by omega);clear c4
   (first | rw [zbn] | (simp only [Yy, Y6]; rw [zbn]) | skip)
   have H' := zf.mk H;clear H;go_wp2
   go_meet
   case rel => exact ⟨_, (decide ((l0.length : Int) > 512)), (by first | rfl | (simp; done) | (simp [*]; done)), H', ⟨by first | omega | exact Nat.le_refl _⟩, ⟨by repeat (first | (with_reducible first | exact HB.out | apply zh | apply zg | apply zk) | exact HB.out)⟩⟩
 case rest =>
  clear HC3;try clear c2
  try clear p2
  try clear c4
  try clear zbn
  try clear ze8
  obtain ⟨kq, x14_2, rfl, HA, HJ2, HB⟩ := hcut;cases kq with
  | zero => exact absurd HA.out (by simp [Yb.j0])
  | succ kj2 =>
   have H := HA.out;clear HA;simp only [Yb.j0] at H;by_cases c5 : x14_2 = true
   ·
    subst c5;have H1 : (some false) = some r := by rw [if_pos rfl] at H; exact H
    clear H;have H := H1;clear H1;obtain rfl := Option.some.inj H;go_wp2
    go_ret;exact ⟨by first | rfl | (simp [Zd, Ze] <;> rfl) | (simp [*, Zd, Ze] <;> rfl), by repeat (first | (with_reducible first | exact HB.out | apply zh | apply zg | apply zk) | exact HB.out)⟩
   ·
    replace c5 := Bool.eq_false_iff.mpr c5;subst c5;have H1 : (Yb.l0 kj2 l0 a1 l0 (l0.length : Int) 0) = some r := by rw [if_neg (show ¬ (false = true) by decide)] at H; exact H
    clear H;have H := H1;clear H1;have H' := zf.mk H;clear H;go_wp2
    go_loopg [17] kj2 (fun kq v17 w' => ∃ (x17_2 : Int), v17 = .int .i64 x17_2 ∧ zf (Yb.l0 kq l0 a1 l0 (l0.length : Int) x17_2 = some r) ∧ zf (kq ≤ kj2) ∧ zf (Below w.heap.size w w'))
    case atStart => exact ⟨(0), (by first | rfl | (simp; done) | (simp [*]; done)), H', ⟨Nat.le_refl _⟩, ⟨by repeat (first | (with_reducible first | exact HB.out | apply zh | apply zg | apply zk) | exact HB.out)⟩⟩
    case round =>
     clear H';try clear c2
     try clear p2
     try clear c4
     try clear zbn
     try clear ze8
     try clear c5
     try clear p2
     obtain ⟨x17_2, rfl, HA, HK2, HB⟩ := hrel;cases gk with
     | zero => exact absurd HA.out (by simp [Yb.l0])
     | succ k2 =>
      have H := HA.out;clear HA;simp only [Yb.l0] at H;by_cases c6 : x17_2 < (l0.length : Int)
      ·
       rw [if_pos c6] at H;have zic : decide (x17_2 < (l0.length : Int)) = true := decide_eq_true c6;clear c6;by_cases c7 : 0 ≤ x17_2
       ·
        rw [if_pos c7] at H;have zdt : decide (0 ≤ x17_2) = true := decide_eq_true c7;clear c7;by_cases c8 : x17_2 < (l0.length : Int)
        ·
         rw [if_pos c8] at H;have zjl : decide (x17_2 < (l0.length : Int)) = true := decide_eq_true c8;clear c8;replace H := Option.bind_eq_some_iff.mp H;obtain ⟨t200, A90, H⟩ := H;replace H : (if t200 = true then (Yb.l0 k2 l0 a1 l0 (l0.length : Int) (wrap64 (x17_2 + 1))) else (some false)) = some r := H;have A9 := zf.mk A90;clear A90;by_cases c10 : t200 = true
         ·
          subst c10;have H1 : (Yb.l0 k2 l0 a1 l0 (l0.length : Int) (wrap64 (x17_2 + 1))) = some r := by rw [if_pos rfl] at H; exact H
          clear H;have H := H1;clear H1;have H' := zf.mk H;clear H;have p198 : 0 ≤ (x17_2 : Int) := of_decide_eq_true (by first | (with_reducible assumption) | assumption);have q198 : x17_2 < (l0.length : Int) := of_decide_eq_true (by first | (with_reducible assumption) | assumption);obtain ⟨ad198, e198, zid, zie, zif, zih, zij, zik, zil, zim, zin, zio⟩ := zbr HR0.out x17_2 p198 q198;cases e198;obtain ⟨zid, zie, zif, zih, zij, zik, zil, zim, zin, zio⟩ := zff HB.out zid zie zif zih zij zik zil zim zin zio;replace p198 := eq_true p198;replace q198 := eq_true q198;go_wp2_with (first | ((with_reducible refine Yx (N := 6) rfl ?_); (try (refine zba (by rfl) ?_; dsimp only)); refine Y7 ?hg (N := 6) ?hd (cs := #[.int .i64 0, .int .i64 0, .int .i64 0, .int .i64 0, .int .i64 0, .string (⟨#[]⟩ : ByteArray), .string (⟨#[]⟩ : ByteArray), .string (⟨#[]⟩ : ByteArray), .string (⟨#[]⟩ : ByteArray), .int .i64 0]) (t := 44) ?hr ?_; (case hd => rfl); (case hg => rfl); (case hr => first | (go_simp; done) | (go_simp; rfl)); intro zlo hg w11 hbox hb; have n0_ := zf.mk (Zc (by repeat (first | (with_reducible first | exact HB.out | apply zh | apply zg | apply zk) | exact HB.out)) hb); have n1_ := zf.mk (hbox); have n2_ := zf.mk ((by rw [hg]; exact (xn (by repeat (first | (with_reducible first | exact HB.out | apply zh | apply zg | apply zk) | exact HB.out))) : w.heap.size ≤ zlo)); have n3_ := zf.mk ((by rw [hg]; exact (xn (by repeat (first | (with_reducible first | exact HB.out | apply zh | apply zg | apply zk) | exact HB.out))) : w.heap.size ≤ zlo)); clear HB; have HB := n0_; have zgx := n1_; have GW199 := n2_; have zp9 := n3_; clear n0_ n1_ n2_ n3_; clear hb hbox hg; obtain ⟨zoh, zoi, hcz12_2, hcz12_3, hcz12_4, hcz12_5, hcz12_6, hcz12_7, hcz12_8, hcz12_9⟩ := Yi zgx.out; obtain ⟨zoj, zok, hfz12_2, hfz12_3, hfz12_4, hfz12_5, hfz12_6, hfz12_7, hfz12_8, hfz12_9⟩ := zbk zgx.out) | ((with_reducible refine Zw (f := 53) rfl ?_); refine Xc (some 23) rfl rfl Tryz.func53 (by kernel_rfl) rfl #[.agg #[.int .i64 ((zl l0 x17_2).f0), .int .i64 ((zl l0 x17_2).f1), .int .i64 ((zl l0 x17_2).f2), .int .i64 ((zl l0 x17_2).f3), .int .i64 ((zl l0 x17_2).f4), .string ((zl l0 x17_2).f5), .string ((zl l0 x17_2).f6), .string ((zl l0 x17_2).f7), .string ((zl l0 x17_2).f8), .int .i64 ((zl l0 x17_2).f9)], .bool a1] rfl (by (try simp only [List.map_toArray, List.map_cons, List.map_nil]); first | done | rfl | (simp only [List.length_drop, List.length_take]; rfl)) ?_; (with_reducible refine (za3.calls k2 ((zl l0 x17_2).f0) ((zl l0 x17_2).f1) ((zl l0 x17_2).f2) ((zl l0 x17_2).f3) ((zl l0 x17_2).f4) ((zl l0 x17_2).f5) ((zl l0 x17_2).f6) ((zl l0 x17_2).f7) ((zl l0 x17_2).f8) ((zl l0 x17_2).f9) a1 true _ A9.out).mono ?_); rintro e w13 ⟨rfl, hb⟩; refine ⟨_, rfl, ?_⟩; have n0_ := zf.mk (zy (g := zlo) (o := .cells #[.int .i64 ((zl l0 x17_2).f0), .int .i64 ((zl l0 x17_2).f1), .int .i64 ((zl l0 x17_2).f2), .int .i64 ((zl l0 x17_2).f3), .int .i64 ((zl l0 x17_2).f4), .string ((zl l0 x17_2).f5), .string ((zl l0 x17_2).f6), .string ((zl l0 x17_2).f7), .string ((zl l0 x17_2).f8), .int .i64 ((zl l0 x17_2).f9)] 44 (0, 0)) (by (with_reducible repeat (first | refine zn ?_ _ | refine zq ?_ | refine zo ?_ _)); refine Yc (cs := #[.int .i64 ((zl l0 x17_2).f0), .int .i64 ((zl l0 x17_2).f1), .int .i64 ((zl l0 x17_2).f2), .int .i64 ((zl l0 x17_2).f3), .int .i64 ((zl l0 x17_2).f4), .string ((zl l0 x17_2).f5), .string ((zl l0 x17_2).f6), .string ((zl l0 x17_2).f7), .string ((zl l0 x17_2).f8), .int .i64 0]) ?_ 9 _ rfl; (with_reducible repeat (first | refine zn ?_ _ | refine zq ?_ | refine zo ?_ _)); refine Yc (cs := #[.int .i64 ((zl l0 x17_2).f0), .int .i64 ((zl l0 x17_2).f1), .int .i64 ((zl l0 x17_2).f2), .int .i64 ((zl l0 x17_2).f3), .int .i64 ((zl l0 x17_2).f4), .string ((zl l0 x17_2).f5), .string ((zl l0 x17_2).f6), .string ((zl l0 x17_2).f7), .string (⟨#[]⟩ : ByteArray), .int .i64 0]) ?_ 8 _ rfl; (with_reducible repeat (first | refine zn ?_ _ | refine zq ?_ | refine zo ?_ _)); refine Yc (cs := #[.int .i64 ((zl l0 x17_2).f0), .int .i64 ((zl l0 x17_2).f1), .int .i64 ((zl l0 x17_2).f2), .int .i64 ((zl l0 x17_2).f3), .int .i64 ((zl l0 x17_2).f4), .string ((zl l0 x17_2).f5), .string ((zl l0 x17_2).f6), .string (⟨#[]⟩ : ByteArray), .string (⟨#[]⟩ : ByteArray), .int .i64 0]) ?_ 7 _ rfl; (with_reducible repeat (first | refine zn ?_ _ | refine zq ?_ | refine zo ?_ _)); refine Yc (cs := #[.int .i64 ((zl l0 x17_2).f0), .int .i64 ((zl l0 x17_2).f1), .int .i64 ((zl l0 x17_2).f2), .int .i64 ((zl l0 x17_2).f3), .int .i64 ((zl l0 x17_2).f4), .string ((zl l0 x17_2).f5), .string (⟨#[]⟩ : ByteArray), .string (⟨#[]⟩ : ByteArray), .string (⟨#[]⟩ : ByteArray), .int .i64 0]) ?_ 6 _ rfl; (with_reducible repeat (first | refine zn ?_ _ | refine zq ?_ | refine zo ?_ _)); refine Yc (cs := #[.int .i64 ((zl l0 x17_2).f0), .int .i64 ((zl l0 x17_2).f1), .int .i64 ((zl l0 x17_2).f2), .int .i64 ((zl l0 x17_2).f3), .int .i64 ((zl l0 x17_2).f4), .string (⟨#[]⟩ : ByteArray), .string (⟨#[]⟩ : ByteArray), .string (⟨#[]⟩ : ByteArray), .string (⟨#[]⟩ : ByteArray), .int .i64 0]) ?_ 5 _ rfl; (with_reducible repeat (first | refine zn ?_ _ | refine zq ?_ | refine zo ?_ _)); refine Yc (cs := #[.int .i64 ((zl l0 x17_2).f0), .int .i64 ((zl l0 x17_2).f1), .int .i64 ((zl l0 x17_2).f2), .int .i64 ((zl l0 x17_2).f3), .int .i64 0, .string (⟨#[]⟩ : ByteArray), .string (⟨#[]⟩ : ByteArray), .string (⟨#[]⟩ : ByteArray), .string (⟨#[]⟩ : ByteArray), .int .i64 0]) ?_ 4 _ rfl; (with_reducible repeat (first | refine zn ?_ _ | refine zq ?_ | refine zo ?_ _)); refine Yc (cs := #[.int .i64 ((zl l0 x17_2).f0), .int .i64 ((zl l0 x17_2).f1), .int .i64 ((zl l0 x17_2).f2), .int .i64 0, .int .i64 0, .string (⟨#[]⟩ : ByteArray), .string (⟨#[]⟩ : ByteArray), .string (⟨#[]⟩ : ByteArray), .string (⟨#[]⟩ : ByteArray), .int .i64 0]) ?_ 3 _ rfl; (with_reducible repeat (first | refine zn ?_ _ | refine zq ?_ | refine zo ?_ _)); refine Yc (cs := #[.int .i64 ((zl l0 x17_2).f0), .int .i64 ((zl l0 x17_2).f1), .int .i64 0, .int .i64 0, .int .i64 0, .string (⟨#[]⟩ : ByteArray), .string (⟨#[]⟩ : ByteArray), .string (⟨#[]⟩ : ByteArray), .string (⟨#[]⟩ : ByteArray), .int .i64 0]) ?_ 2 _ rfl; (with_reducible repeat (first | refine zn ?_ _ | refine zq ?_ | refine zo ?_ _)); refine Yc (cs := #[.int .i64 ((zl l0 x17_2).f0), .int .i64 0, .int .i64 0, .int .i64 0, .int .i64 0, .string (⟨#[]⟩ : ByteArray), .string (⟨#[]⟩ : ByteArray), .string (⟨#[]⟩ : ByteArray), .string (⟨#[]⟩ : ByteArray), .int .i64 0]) ?_ 1 _ rfl; (with_reducible repeat (first | refine zn ?_ _ | refine zq ?_ | refine zo ?_ _)); refine Yc (cs := #[.int .i64 0, .int .i64 0, .int .i64 0, .int .i64 0, .int .i64 0, .string (⟨#[]⟩ : ByteArray), .string (⟨#[]⟩ : ByteArray), .string (⟨#[]⟩ : ByteArray), .string (⟨#[]⟩ : ByteArray), .int .i64 0]) ?_ 0 _ rfl; (with_reducible repeat (first | refine zn ?_ _ | refine zq ?_ | refine zo ?_ _)); exact zgx.out) hb); have n1_ := zf.mk (Zc (by repeat (first | (with_reducible first | exact HB.out | apply zh | apply zg | apply zk | refine zi ?_ zp9.out) | exact HB.out)) hb); clear zgx; clear HB; have zgx := n0_; have HB := n1_; clear n0_ n1_; (try clear hb); (try clear hb2); (try clear hk); (try clear hi)))
          go_roundg k2
          case measure => have := HJ2.out; have := HK2.out; omega
          case rel => exact ⟨(wrap64 (x17_2 + 1)), (by first | rfl | (simp; done) | (simp [*]; done)), H', ⟨by have := HJ2.out; have := HK2.out; omega⟩, ⟨by repeat (first | (with_reducible first | exact HB.out | apply zh | apply zg | apply zk | refine zi ?_ zp9.out) | exact HB.out)⟩⟩
         ·
          replace c10 := Bool.eq_false_iff.mpr c10;subst c10;have H1 : (some false) = some r := by rw [if_neg (show ¬ (false = true) by decide)] at H; exact H
          clear H;have H := H1;clear H1;obtain rfl := Option.some.inj H;have p198 : 0 ≤ (x17_2 : Int) := of_decide_eq_true (by first | (with_reducible assumption) | assumption);have q198 : x17_2 < (l0.length : Int) := of_decide_eq_true (by first | (with_reducible assumption) | assumption);obtain ⟨ad198, e198, zid, zie, zif, zih, zij, zik, zil, zim, zin, zio⟩ := zbr HR0.out x17_2 p198 q198;cases e198;obtain ⟨zid, zie, zif, zih, zij, zik, zil, zim, zin, zio⟩ := zff HB.out zid zie zif zih zij zik zil zim zin zio;replace p198 := eq_true p198;replace q198 := eq_true q198;go_wp2_with (first | ((with_reducible refine Yx (N := 6) rfl ?_); (try (refine zba (by rfl) ?_; dsimp only)); refine Y7 ?hg (N := 6) ?hd (cs := #[.int .i64 0, .int .i64 0, .int .i64 0, .int .i64 0, .int .i64 0, .string (⟨#[]⟩ : ByteArray), .string (⟨#[]⟩ : ByteArray), .string (⟨#[]⟩ : ByteArray), .string (⟨#[]⟩ : ByteArray), .int .i64 0]) (t := 44) ?hr ?_; (case hd => rfl); (case hg => rfl); (case hr => first | (go_simp; done) | (go_simp; rfl)); intro zlo hg w14 hbox hb; have n0_ := zf.mk (Zc (by repeat (first | (with_reducible first | exact HB.out | apply zh | apply zg | apply zk) | exact HB.out)) hb); have n1_ := zf.mk (hbox); have n2_ := zf.mk ((by rw [hg]; exact (xn (by repeat (first | (with_reducible first | exact HB.out | apply zh | apply zg | apply zk) | exact HB.out))) : w.heap.size ≤ zlo)); have n3_ := zf.mk ((by rw [hg]; exact (xn (by repeat (first | (with_reducible first | exact HB.out | apply zh | apply zg | apply zk) | exact HB.out))) : w.heap.size ≤ zlo)); clear HB; have HB := n0_; have zgx := n1_; have GW199 := n2_; have zp9 := n3_; clear n0_ n1_ n2_ n3_; clear hb hbox hg; obtain ⟨hcz15_0, hcz15_1, hcz15_2, hcz15_3, hcz15_4, hcz15_5, hcz15_6, hcz15_7, hcz15_8, hcz15_9⟩ := Yi zgx.out; obtain ⟨hfz15_0, hfz15_1, hfz15_2, hfz15_3, hfz15_4, hfz15_5, hfz15_6, hfz15_7, hfz15_8, hfz15_9⟩ := zbk zgx.out) | ((with_reducible refine Zw (f := 53) rfl ?_); refine Xc (some 23) rfl rfl Tryz.func53 (by kernel_rfl) rfl #[.agg #[.int .i64 ((zl l0 x17_2).f0), .int .i64 ((zl l0 x17_2).f1), .int .i64 ((zl l0 x17_2).f2), .int .i64 ((zl l0 x17_2).f3), .int .i64 ((zl l0 x17_2).f4), .string ((zl l0 x17_2).f5), .string ((zl l0 x17_2).f6), .string ((zl l0 x17_2).f7), .string ((zl l0 x17_2).f8), .int .i64 ((zl l0 x17_2).f9)], .bool a1] rfl (by (try simp only [List.map_toArray, List.map_cons, List.map_nil]); first | done | rfl | (simp only [List.length_drop, List.length_take]; rfl)) ?_; (with_reducible refine (za3.calls k2 ((zl l0 x17_2).f0) ((zl l0 x17_2).f1) ((zl l0 x17_2).f2) ((zl l0 x17_2).f3) ((zl l0 x17_2).f4) ((zl l0 x17_2).f5) ((zl l0 x17_2).f6) ((zl l0 x17_2).f7) ((zl l0 x17_2).f8) ((zl l0 x17_2).f9) a1 false _ A9.out).mono ?_); rintro e w16 ⟨rfl, hb⟩; refine ⟨_, rfl, ?_⟩; have n0_ := zf.mk (zy (g := zlo) (o := .cells #[.int .i64 ((zl l0 x17_2).f0), .int .i64 ((zl l0 x17_2).f1), .int .i64 ((zl l0 x17_2).f2), .int .i64 ((zl l0 x17_2).f3), .int .i64 ((zl l0 x17_2).f4), .string ((zl l0 x17_2).f5), .string ((zl l0 x17_2).f6), .string ((zl l0 x17_2).f7), .string ((zl l0 x17_2).f8), .int .i64 ((zl l0 x17_2).f9)] 44 (0, 0)) (by (with_reducible repeat (first | refine zn ?_ _ | refine zq ?_ | refine zo ?_ _)); refine Yc (cs := #[.int .i64 ((zl l0 x17_2).f0), .int .i64 ((zl l0 x17_2).f1), .int .i64 ((zl l0 x17_2).f2), .int .i64 ((zl l0 x17_2).f3), .int .i64 ((zl l0 x17_2).f4), .string ((zl l0 x17_2).f5), .string ((zl l0 x17_2).f6), .string ((zl l0 x17_2).f7), .string ((zl l0 x17_2).f8), .int .i64 0]) ?_ 9 _ rfl; (with_reducible repeat (first | refine zn ?_ _ | refine zq ?_ | refine zo ?_ _)); refine Yc (cs := #[.int .i64 ((zl l0 x17_2).f0), .int .i64 ((zl l0 x17_2).f1), .int .i64 ((zl l0 x17_2).f2), .int .i64 ((zl l0 x17_2).f3), .int .i64 ((zl l0 x17_2).f4), .string ((zl l0 x17_2).f5), .string ((zl l0 x17_2).f6), .string ((zl l0 x17_2).f7), .string (⟨#[]⟩ : ByteArray), .int .i64 0]) ?_ 8 _ rfl; (with_reducible repeat (first | refine zn ?_ _ | refine zq ?_ | refine zo ?_ _)); refine Yc (cs := #[.int .i64 ((zl l0 x17_2).f0), .int .i64 ((zl l0 x17_2).f1), .int .i64 ((zl l0 x17_2).f2), .int .i64 ((zl l0 x17_2).f3), .int .i64 ((zl l0 x17_2).f4), .string ((zl l0 x17_2).f5), .string ((zl l0 x17_2).f6), .string (⟨#[]⟩ : ByteArray), .string (⟨#[]⟩ : ByteArray), .int .i64 0]) ?_ 7 _ rfl; (with_reducible repeat (first | refine zn ?_ _ | refine zq ?_ | refine zo ?_ _)); refine Yc (cs := #[.int .i64 ((zl l0 x17_2).f0), .int .i64 ((zl l0 x17_2).f1), .int .i64 ((zl l0 x17_2).f2), .int .i64 ((zl l0 x17_2).f3), .int .i64 ((zl l0 x17_2).f4), .string ((zl l0 x17_2).f5), .string (⟨#[]⟩ : ByteArray), .string (⟨#[]⟩ : ByteArray), .string (⟨#[]⟩ : ByteArray), .int .i64 0]) ?_ 6 _ rfl; (with_reducible repeat (first | refine zn ?_ _ | refine zq ?_ | refine zo ?_ _)); refine Yc (cs := #[.int .i64 ((zl l0 x17_2).f0), .int .i64 ((zl l0 x17_2).f1), .int .i64 ((zl l0 x17_2).f2), .int .i64 ((zl l0 x17_2).f3), .int .i64 ((zl l0 x17_2).f4), .string (⟨#[]⟩ : ByteArray), .string (⟨#[]⟩ : ByteArray), .string (⟨#[]⟩ : ByteArray), .string (⟨#[]⟩ : ByteArray), .int .i64 0]) ?_ 5 _ rfl; (with_reducible repeat (first | refine zn ?_ _ | refine zq ?_ | refine zo ?_ _)); refine Yc (cs := #[.int .i64 ((zl l0 x17_2).f0), .int .i64 ((zl l0 x17_2).f1), .int .i64 ((zl l0 x17_2).f2), .int .i64 ((zl l0 x17_2).f3), .int .i64 0, .string (⟨#[]⟩ : ByteArray), .string (⟨#[]⟩ : ByteArray), .string (⟨#[]⟩ : ByteArray), .string (⟨#[]⟩ : ByteArray), .int .i64 0]) ?_ 4 _ rfl; (with_reducible repeat (first | refine zn ?_ _ | refine zq ?_ | refine zo ?_ _)); refine Yc (cs := #[.int .i64 ((zl l0 x17_2).f0), .int .i64 ((zl l0 x17_2).f1), .int .i64 ((zl l0 x17_2).f2), .int .i64 0, .int .i64 0, .string (⟨#[]⟩ : ByteArray), .string (⟨#[]⟩ : ByteArray), .string (⟨#[]⟩ : ByteArray), .string (⟨#[]⟩ : ByteArray), .int .i64 0]) ?_ 3 _ rfl; (with_reducible repeat (first | refine zn ?_ _ | refine zq ?_ | refine zo ?_ _)); refine Yc (cs := #[.int .i64 ((zl l0 x17_2).f0), .int .i64 ((zl l0 x17_2).f1), .int .i64 0, .int .i64 0, .int .i64 0, .string (⟨#[]⟩ : ByteArray), .string (⟨#[]⟩ : ByteArray), .string (⟨#[]⟩ : ByteArray), .string (⟨#[]⟩ : ByteArray), .int .i64 0]) ?_ 2 _ rfl; (with_reducible repeat (first | refine zn ?_ _ | refine zq ?_ | refine zo ?_ _)); refine Yc (cs := #[.int .i64 ((zl l0 x17_2).f0), .int .i64 0, .int .i64 0, .int .i64 0, .int .i64 0, .string (⟨#[]⟩ : ByteArray), .string (⟨#[]⟩ : ByteArray), .string (⟨#[]⟩ : ByteArray), .string (⟨#[]⟩ : ByteArray), .int .i64 0]) ?_ 1 _ rfl; (with_reducible repeat (first | refine zn ?_ _ | refine zq ?_ | refine zo ?_ _)); refine Yc (cs := #[.int .i64 0, .int .i64 0, .int .i64 0, .int .i64 0, .int .i64 0, .string (⟨#[]⟩ : ByteArray), .string (⟨#[]⟩ : ByteArray), .string (⟨#[]⟩ : ByteArray), .string (⟨#[]⟩ : ByteArray), .int .i64 0]) ?_ 0 _ rfl; (with_reducible repeat (first | refine zn ?_ _ | refine zq ?_ | refine zo ?_ _)); exact zgx.out) hb); have n1_ := zf.mk (Zc (by repeat (first | (with_reducible first | exact HB.out | apply zh | apply zg | apply zk | refine zi ?_ zp9.out) | exact HB.out)) hb); clear zgx; clear HB; have zgx := n0_; have HB := n1_; clear n0_ n1_; (try clear hb); (try clear hb2); (try clear hk); (try clear hi)))
          go_ret;exact ⟨by first | rfl | (simp [Zd, Ze] <;> rfl) | (simp [*, Zd, Ze] <;> rfl), by repeat (first | (with_reducible first | exact HB.out | apply zh | apply zg | apply zk | refine zi ?_ zp9.out) | exact HB.out)⟩
        ·
         rw [if_neg c8] at H;exact absurd H (by simp)
       ·
        rw [if_neg c7] at H;exact absurd H (by simp)
      ·
       rw [if_neg c6] at H;have zic : decide (x17_2 < (l0.length : Int)) = false := decide_eq_false c6;clear c6;replace H := Option.bind_eq_some_iff.mp H;obtain ⟨t201, A170, H⟩ := H;replace H : (some (t201 == 0)) = some r := H;have A17 := zf.mk A170;clear A170;obtain rfl := Option.some.inj H;go_wp2_with (first | ((with_reducible refine Zw (f := 54) rfl ?_); refine Xc (some 30) rfl rfl Tryz.func54 (by kernel_rfl) rfl #[.slice A0 l0.length c0, .int .i64 (wrap64 ((l0.length : Int) - 1))] rfl (by (try simp only [List.map_toArray, List.map_cons, List.map_nil]); first | done | rfl | (simp only [List.length_drop, List.length_take]; rfl)) ?_; (with_reducible refine (Y4.calls k2 _ _ l0 (wrap64 ((l0.length : Int) - 1)) t201 _ ?side1 ?side2 A17.out).mono ?_); (case side1 => repeat (first | exact (Kd.Zq HR0.out HB.out) | (with_reducible refine Kd.Yg ?_ _) | (with_reducible refine Kd.Ym ?_ _) | (with_reducible refine Kd.Yv ?_))); (case side2 => exact HC0.out); rintro e w18 ⟨rfl, hb⟩; refine ⟨_, rfl, ?_⟩; have n0_ := zf.mk (Zc (by repeat (first | (with_reducible first | exact HB.out | apply zh | apply zg | apply zk) | exact HB.out)) hb); clear HB; have HB := n0_; clear n0_; (try clear hb); (try clear hb2); (try clear hk); (try clear hi)))
       go_ret;exact ⟨by first | rfl | (simp [Zd, Ze] <;> rfl) | (simp [*, Zd, Ze] <;> rfl), by repeat (first | (with_reducible first | exact HB.out | apply zh | apply zg | apply zk) | exact HB.out)⟩
end Go.Proofs.YtfcjpkkglffnmaaGreatDoor.H
