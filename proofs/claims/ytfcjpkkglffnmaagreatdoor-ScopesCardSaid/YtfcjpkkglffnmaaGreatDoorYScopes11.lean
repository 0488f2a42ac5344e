/- Several texts in one: contracts of functions of the program, and what they lean on. In part written by a program of this session over the kit's print, in part by hand. -/
import Derived.Test.YtfcjpkkglffnmaaGreatDoorYScopes2
import Derived.Test.YtfcjpkkglffnmaaGreatDoorYScopes10
import Derived.Test.YtfcjpkkglffnmaaGreatDoorYScopes7
import Derived.Test.YtfcjpkkglffnmaaGreatDoorYScopes5
import Derived.Test.YtfcjpkkglffnmaaGreatDoorYScopes6
namespace Go.Proofs.YtfcjpkkglffnmaaGreatDoor.H
open Go.RowKit Go.Proofs.YtfcjpkkglffnmaaGreatDoorW.PrintWords Go.Proofs.YtfcjpkkglffnmaaGreatDoorW.PrintLast Go.Proofs.YtfcjpkkglffnmaaGreatDoorW.PrintMore
attribute [local go_sem] Vz V3 za0 za1 Vd Ve V4 V5
set_option linter.unusedVariables false
set_option linter.unusedSimpArgs false
mutual
def Zo.j0 : Nat → List (S44) → Bool → Bool → Option (Bool)
 | 0, _, _, _ => none
 | k + 1, x0, x1, x13 => if x13 = true then (some false) else (Zo.l0 k x0 x1 0)
def Zo.l0 : Nat → List (S44) → Bool → Int → Option (Bool)
 | 0, _, _, _ => none
 | k + 1, x0, x1, x5 => if x5 < (x0.length : Int) then (if 0 ≤ x5 then ((xu.f k ((zl x0 x5).f0) ((zl x0 x5).f1) ((zl x0 x5).f2) ((zl x0 x5).f3) ((zl x0 x5).f4) ((zl x0 x5).f5) ((zl x0 x5).f6) ((zl x0 x5).f7) ((zl x0 x5).f8) ((zl x0 x5).f9) x1).bind fun t247 => (if t247 = true then ((Vy.f ((zl x0 x5).f0) ((zl x0 x5).f1) ((zl x0 x5).f2) ((zl x0 x5).f3) ((zl x0 x5).f4) ((zl x0 x5).f5) ((zl x0 x5).f6) ((zl x0 x5).f7) ((zl x0 x5).f8) ((zl x0 x5).f9)).bind fun t249 => (if t249 = true then (Zo.l0 k x0 x1 (wrap64 (x5 + 1))) else (some false))) else (some false))) else (none)) else ((Zm.f k x0 (wrap64 ((x0.length : Int) - 1))).bind fun t245 => (some (t245 == 0)))
end
def Zo.f (k : Nat) (l0 : List (S44)) (a1 : Bool) : Option (Bool) := if (l0.length : Int) < 1 then (Zo.j0 k l0 a1 true) else (Zo.j0 k l0 a1 (decide ((l0.length : Int) > 512)))
set_option maxHeartbeats 8000000 in
set_option maxRecDepth 100000 in
theorem Zo.calls (k : Nat) (A0 : Option Addr) (c0 : Nat) (l0 : List (S44)) (a1 : Bool) (r : Bool) (w : World) (hr0 : Kd.C k44 w A0 l0.length l0) (hc0 : l0.length ≤ c0) (h : Zo.f k l0 a1 = some r) :
  Calls Tryz.prog 30 #[.slice A0 l0.length c0, .bool a1] w fun e w' => e = .returned (.bool r) ∧ Below w.heap.size w w' := by
 have hu44 := Tryz.underlying44;have HR0 := zf.mk hr0;have HC0 := zf.mk hc0;clear hr0 hc0;have HB := zf.mk (Below.refl w.heap.size w);have H : (if (l0.length : Int) < 1 then (Zo.j0 k l0 a1 true) else (Zo.j0 k l0 a1 (decide ((l0.length : Int) > 512)))) = some r := h;clear h;have HC3 := zf.mk H;clear H;go_enter Tryz.func30, Tryz.ntmps30;go_upto_region 1 with (fail)
 go_cut [13] (fun v13 wc => ∃ (kq : Nat) (x13_2 : Bool), v13 = .bool x13_2 ∧ zf (Zo.j0 kq l0 a1 x13_2 = some r) ∧ zf (kq ≤ k) ∧ zf (Below w.heap.size w wc))
 case first =>
  have H := HC3.out;clear HC3;by_cases c4 : (l0.length : Int) < 1
  ·
   rw [if_pos c4] at H;have zbn : decide ((l0.length : Int) < 1) = true := decide_eq_true c4;have ze8 : decide (l0.length < 1) = true := decide_eq_true (by omega);clear c4
   (first | rw [zbn] | (simp only [Yy, Y6]; rw [zbn]) | skip)
   have H' := zf.mk H;clear H;go_wp2
   go_meet
   case rel => exact ⟨_, (true), (by first | rfl | (simp; done) | (simp [*]; done)), H', ⟨by first | omega | exact Nat.le_refl _⟩, ⟨by repeat (first | (with_reducible first | exact HB.out | apply zh | apply zg | apply zk) | exact HB.out)⟩⟩
  ·
   rw [if_neg c4] at H;have zbn : decide ((l0.length : Int) < 1) = false := decide_eq_false c4;have ze8 : decide (l0.length < 1) = false := decide_eq_false (by omega);clear c4
   (first | rw [zbn] | (simp only [Yy, Y6]; rw [zbn]) | skip)
   have H' := zf.mk H;clear H;go_wp2
   go_meet
   case rel => exact ⟨_, (decide ((l0.length : Int) > 512)), (by first | rfl | (simp; done) | (simp [*]; done)), H', ⟨by first | omega | exact Nat.le_refl _⟩, ⟨by repeat (first | (with_reducible first | exact HB.out | apply zh | apply zg | apply zk) | exact HB.out)⟩⟩
 case rest =>
  clear HC3;try clear p2
  try clear c3
  try clear c4
  try clear zbn
  try clear ze8
  obtain ⟨kq, x13_2, rfl, HA, HJ2, HB⟩ := hcut;cases kq with
  | zero => exact absurd HA.out (by simp [Zo.j0])
  | succ kj2 =>
   have H := HA.out;clear HA;simp only [Zo.j0] at H;by_cases c5 : x13_2 = true
   ·
    subst c5;have H1 : (some false) = some r := by rw [if_pos rfl] at H; exact H
    clear H;have H := H1;clear H1;obtain rfl := Option.some.inj H;go_wp2
    go_ret;exact ⟨by first | rfl | (simp [Zd, Ze] <;> rfl) | (simp [*, Zd, Ze] <;> rfl), by repeat (first | (with_reducible first | exact HB.out | apply zh | apply zg | apply zk) | exact HB.out)⟩
   ·
    replace c5 := Bool.eq_false_iff.mpr c5;subst c5;have H1 : (Zo.l0 kj2 l0 a1 0) = some r := by rw [if_neg (show ¬ (false = true) by decide)] at H; exact H
    clear H;have H := H1;clear H1;have H' := zf.mk H;clear H;go_wp2
    go_loopg [5] kj2 (fun kq v5 w' => ∃ (x5_2 : Int), v5 = .int .i64 x5_2 ∧ zf (Zo.l0 kq l0 a1 x5_2 = some r) ∧ zf (kq ≤ kj2) ∧ zf (Below w.heap.size w w'))
    case atStart => exact ⟨(0), (by first | rfl | (simp; done) | (simp [*]; done)), H', ⟨Nat.le_refl _⟩, ⟨by repeat (first | (with_reducible first | exact HB.out | apply zh | apply zg | apply zk) | exact HB.out)⟩⟩
    case round =>
     clear H';try clear p2
     try clear c3
     try clear c4
     try clear zbn
     try clear ze8
     try clear c5
     try clear p2
     obtain ⟨x5_2, rfl, HA, HK2, HB⟩ := hrel;cases gk with
     | zero => exact absurd HA.out (by simp [Zo.l0])
     | succ k2 =>
      have H := HA.out;clear HA;simp only [Zo.l0] at H;by_cases c6 : x5_2 < (l0.length : Int)
      ·
       rw [if_pos c6] at H;have zic : decide (x5_2 < (l0.length : Int)) = true := decide_eq_true c6;clear c6;by_cases c7 : 0 ≤ x5_2
       ·
        rw [if_pos c7] at H;have zdt : decide (0 ≤ x5_2) = true := decide_eq_true c7;clear c7;replace H := Option.bind_eq_some_iff.mp H;obtain ⟨t247, A80, H⟩ := H;replace H : (if t247 = true then ((Vy.f ((zl l0 x5_2).f0) ((zl l0 x5_2).f1) ((zl l0 x5_2).f2) ((zl l0 x5_2).f3) ((zl l0 x5_2).f4) ((zl l0 x5_2).f5) ((zl l0 x5_2).f6) ((zl l0 x5_2).f7) ((zl l0 x5_2).f8) ((zl l0 x5_2).f9)).bind fun t249 => (if t249 = true then (Zo.l0 k2 l0 a1 (wrap64 (x5_2 + 1))) else (some false))) else (some false)) = some r := H;have A8 := zf.mk A80;clear A80;by_cases c9 : t247 = true
        ·
         subst c9;have H1 : ((Vy.f ((zl l0 x5_2).f0) ((zl l0 x5_2).f1) ((zl l0 x5_2).f2) ((zl l0 x5_2).f3) ((zl l0 x5_2).f4) ((zl l0 x5_2).f5) ((zl l0 x5_2).f6) ((zl l0 x5_2).f7) ((zl l0 x5_2).f8) ((zl l0 x5_2).f9)).bind fun t249 => (if t249 = true then (Zo.l0 k2 l0 a1 (wrap64 (x5_2 + 1))) else (some false))) = some r := by rw [if_pos rfl] at H; exact H
         clear H;have H := H1;clear H1;replace H := Option.bind_eq_some_iff.mp H;obtain ⟨t249, A100, H⟩ := H;replace H : (if t249 = true then (Zo.l0 k2 l0 a1 (wrap64 (x5_2 + 1))) else (some false)) = some r := H;have A10 := zf.mk A100;clear A100;by_cases c11 : t249 = true
         ·
          subst c11;have H1 : (Zo.l0 k2 l0 a1 (wrap64 (x5_2 + 1))) = some r := by rw [if_pos rfl] at H; exact H
          clear H;have H := H1;clear H1;have H' := zf.mk H;clear H;have p246 : 0 ≤ (x5_2 : Int) := of_decide_eq_true (by first | (with_reducible assumption) | assumption);have q246 : x5_2 < (l0.length : Int) := of_decide_eq_true (by first | (with_reducible assumption) | assumption);obtain ⟨ad246, e246, zfp, zfq, zfr, zfs, zft, zfu, zfv, zfw, zfx, zfy⟩ := zbr HR0.out x5_2 p246 q246;cases e246;obtain ⟨zfp, zfq, zfr, zfs, zft, zfu, zfv, zfw, zfx, zfy⟩ := zff HB.out zfp zfq zfr zfs zft zfu zfv zfw zfx zfy;replace p246 := eq_true p246;replace q246 := eq_true q246;go_wp2_with (first | ((with_reducible refine Zw (f := 59) rfl ?_); refine Xc (some 25) rfl rfl Tryz.func59 (by kernel_rfl) rfl #[.agg #[.int .i64 ((zl l0 x5_2).f0), .int .i64 ((zl l0 x5_2).f1), .int .i64 ((zl l0 x5_2).f2), .int .i64 ((zl l0 x5_2).f3), .int .i64 ((zl l0 x5_2).f4), .string ((zl l0 x5_2).f5), .string ((zl l0 x5_2).f6), .string ((zl l0 x5_2).f7), .string ((zl l0 x5_2).f8), .int .i64 ((zl l0 x5_2).f9)], .bool a1] rfl (by (try simp only [List.map_toArray, List.map_cons, List.map_nil]); first | done | rfl | (simp only [List.length_drop, List.length_take]; rfl)) ?_; (with_reducible refine (xu.calls k2 ((zl l0 x5_2).f0) ((zl l0 x5_2).f1) ((zl l0 x5_2).f2) ((zl l0 x5_2).f3) ((zl l0 x5_2).f4) ((zl l0 x5_2).f5) ((zl l0 x5_2).f6) ((zl l0 x5_2).f7) ((zl l0 x5_2).f8) ((zl l0 x5_2).f9) a1 true _ A8.out).mono ?_); rintro e w12 ⟨rfl, hb⟩; refine ⟨_, rfl, ?_⟩; have n0_ := zf.mk (Zc (by repeat (first | (with_reducible first | exact HB.out | apply zh | apply zg | apply zk) | exact HB.out)) hb); clear HB; have HB := n0_; clear n0_; (try clear hb); (try clear hb2); (try clear hk); (try clear hi); have p248 : 0 ≤ (x5_2 : Int) := of_decide_eq_true (by first | (with_reducible assumption) | assumption); have q248 : x5_2 < (l0.length : Int) := of_decide_eq_true (by first | (with_reducible assumption) | assumption); obtain ⟨ad248, e248, zis, zit, ziv, ziw, zix, ziy, ziz, zi0, zi1, zi2⟩ := zbr HR0.out x5_2 p248 q248; obtain rfl : ad246 = ad248 := (by injection e248); obtain ⟨zis, zit, ziv, ziw, zix, ziy, ziz, zi0, zi1, zi2⟩ := zff HB.out zis zit ziv ziw zix ziy ziz zi0 zi1 zi2; replace p248 := eq_true p248; replace q248 := eq_true q248) | (go_at_call 60; (with_reducible refine (Vy.calls ((zl l0 x5_2).f0) ((zl l0 x5_2).f1) ((zl l0 x5_2).f2) ((zl l0 x5_2).f3) ((zl l0 x5_2).f4) ((zl l0 x5_2).f5) ((zl l0 x5_2).f6) ((zl l0 x5_2).f7) ((zl l0 x5_2).f8) ((zl l0 x5_2).f9) true _ A10.out).mono ?_); rintro e w13 ⟨rfl, hb⟩; have n0_ := zf.mk (Zc (by repeat (first | (with_reducible first | exact HB.out | apply zh | apply zg | apply zk) | exact HB.out)) hb); clear HB; have HB := n0_; clear n0_; (try clear hb); (try clear hb2); (try clear hk); (try clear hi)))
          go_roundg k2
          case measure => have := HJ2.out; have := HK2.out; omega
          case rel => exact ⟨(wrap64 (x5_2 + 1)), (by first | rfl | (simp; done) | (simp [*]; done)), H', ⟨by have := HJ2.out; have := HK2.out; omega⟩, ⟨by repeat (first | (with_reducible first | exact HB.out | apply zh | apply zg | apply zk) | exact HB.out)⟩⟩
         ·
          replace c11 := Bool.eq_false_iff.mpr c11;subst c11;have H1 : (some false) = some r := by rw [if_neg (show ¬ (false = true) by decide)] at H; exact H
          clear H;have H := H1;clear H1;obtain rfl := Option.some.inj H;have p246 : 0 ≤ (x5_2 : Int) := of_decide_eq_true (by first | (with_reducible assumption) | assumption);have q246 : x5_2 < (l0.length : Int) := of_decide_eq_true (by first | (with_reducible assumption) | assumption);obtain ⟨ad246, e246, zfp, zfq, zfr, zfs, zft, zfu, zfv, zfw, zfx, zfy⟩ := zbr HR0.out x5_2 p246 q246;cases e246;obtain ⟨zfp, zfq, zfr, zfs, zft, zfu, zfv, zfw, zfx, zfy⟩ := zff HB.out zfp zfq zfr zfs zft zfu zfv zfw zfx zfy;replace p246 := eq_true p246;replace q246 := eq_true q246;go_wp2_with (first | ((with_reducible refine Zw (f := 59) rfl ?_); refine Xc (some 25) rfl rfl Tryz.func59 (by kernel_rfl) rfl #[.agg #[.int .i64 ((zl l0 x5_2).f0), .int .i64 ((zl l0 x5_2).f1), .int .i64 ((zl l0 x5_2).f2), .int .i64 ((zl l0 x5_2).f3), .int .i64 ((zl l0 x5_2).f4), .string ((zl l0 x5_2).f5), .string ((zl l0 x5_2).f6), .string ((zl l0 x5_2).f7), .string ((zl l0 x5_2).f8), .int .i64 ((zl l0 x5_2).f9)], .bool a1] rfl (by (try simp only [List.map_toArray, List.map_cons, List.map_nil]); first | done | rfl | (simp only [List.length_drop, List.length_take]; rfl)) ?_; (with_reducible refine (xu.calls k2 ((zl l0 x5_2).f0) ((zl l0 x5_2).f1) ((zl l0 x5_2).f2) ((zl l0 x5_2).f3) ((zl l0 x5_2).f4) ((zl l0 x5_2).f5) ((zl l0 x5_2).f6) ((zl l0 x5_2).f7) ((zl l0 x5_2).f8) ((zl l0 x5_2).f9) a1 true _ A8.out).mono ?_); rintro e w14 ⟨rfl, hb⟩; refine ⟨_, rfl, ?_⟩; have n0_ := zf.mk (Zc (by repeat (first | (with_reducible first | exact HB.out | apply zh | apply zg | apply zk) | exact HB.out)) hb); clear HB; have HB := n0_; clear n0_; (try clear hb); (try clear hb2); (try clear hk); (try clear hi); have p248 : 0 ≤ (x5_2 : Int) := of_decide_eq_true (by first | (with_reducible assumption) | assumption); have q248 : x5_2 < (l0.length : Int) := of_decide_eq_true (by first | (with_reducible assumption) | assumption); obtain ⟨ad248, e248, zis, zit, ziv, ziw, zix, ziy, ziz, zi0, zi1, zi2⟩ := zbr HR0.out x5_2 p248 q248; obtain rfl : ad246 = ad248 := (by injection e248); obtain ⟨zis, zit, ziv, ziw, zix, ziy, ziz, zi0, zi1, zi2⟩ := zff HB.out zis zit ziv ziw zix ziy ziz zi0 zi1 zi2; replace p248 := eq_true p248; replace q248 := eq_true q248) | (go_at_call 60; (with_reducible refine (Vy.calls ((zl l0 x5_2).f0) ((zl l0 x5_2).f1) ((zl l0 x5_2).f2) ((zl l0 x5_2).f3) ((zl l0 x5_2).f4) ((zl l0 x5_2).f5) ((zl l0 x5_2).f6) ((zl l0 x5_2).f7) ((zl l0 x5_2).f8) ((zl l0 x5_2).f9) false _ A10.out).mono ?_); rintro e w15 ⟨rfl, hb⟩; have n0_ := zf.mk (Zc (by repeat (first | (with_reducible first | exact HB.out | apply zh | apply zg | apply zk) | exact HB.out)) hb); clear HB; have HB := n0_; clear n0_; (try clear hb); (try clear hb2); (try clear hk); (try clear hi)))
          go_ret;exact ⟨by first | rfl | (simp [Zd, Ze] <;> rfl) | (simp [*, Zd, Ze] <;> rfl), by repeat (first | (with_reducible first | exact HB.out | apply zh | apply zg | apply zk) | exact HB.out)⟩
        ·
         replace c9 := Bool.eq_false_iff.mpr c9;subst c9;have H1 : (some false) = some r := by rw [if_neg (show ¬ (false = true) by decide)] at H; exact H
         clear H;have H := H1;clear H1;obtain rfl := Option.some.inj H;have p246 : 0 ≤ (x5_2 : Int) := of_decide_eq_true (by first | (with_reducible assumption) | assumption);have q246 : x5_2 < (l0.length : Int) := of_decide_eq_true (by first | (with_reducible assumption) | assumption);obtain ⟨ad246, e246, zfp, zfq, zfr, zfs, zft, zfu, zfv, zfw, zfx, zfy⟩ := zbr HR0.out x5_2 p246 q246;cases e246;obtain ⟨zfp, zfq, zfr, zfs, zft, zfu, zfv, zfw, zfx, zfy⟩ := zff HB.out zfp zfq zfr zfs zft zfu zfv zfw zfx zfy;replace p246 := eq_true p246;replace q246 := eq_true q246;go_wp2_with (first | ((with_reducible refine Zw (f := 59) rfl ?_); refine Xc (some 25) rfl rfl Tryz.func59 (by kernel_rfl) rfl #[.agg #[.int .i64 ((zl l0 x5_2).f0), .int .i64 ((zl l0 x5_2).f1), .int .i64 ((zl l0 x5_2).f2), .int .i64 ((zl l0 x5_2).f3), .int .i64 ((zl l0 x5_2).f4), .string ((zl l0 x5_2).f5), .string ((zl l0 x5_2).f6), .string ((zl l0 x5_2).f7), .string ((zl l0 x5_2).f8), .int .i64 ((zl l0 x5_2).f9)], .bool a1] rfl (by (try simp only [List.map_toArray, List.map_cons, List.map_nil]); first | done | rfl | (simp only [List.length_drop, List.length_take]; rfl)) ?_; (with_reducible refine (xu.calls k2 ((zl l0 x5_2).f0) ((zl l0 x5_2).f1) ((zl l0 x5_2).f2) ((zl l0 x5_2).f3) ((zl l0 x5_2).f4) ((zl l0 x5_2).f5) ((zl l0 x5_2).f6) ((zl l0 x5_2).f7) ((zl l0 x5_2).f8) ((zl l0 x5_2).f9) a1 false _ A8.out).mono ?_); rintro e w16 ⟨rfl, hb⟩; refine ⟨_, rfl, ?_⟩; have n0_ := zf.mk (Zc (by repeat (first | (with_reducible first | exact HB.out | apply zh | apply zg | apply zk) | exact HB.out)) hb); clear HB; have HB := n0_; clear n0_; (try clear hb); (try clear hb2); (try clear hk); (try clear hi)))
         go_ret;exact ⟨by first | rfl | (simp [Zd, Ze] <;> rfl) | (simp [*, Zd, Ze] <;> rfl), by repeat (first | (with_reducible first | exact HB.out | apply zh | apply zg | apply zk) | exact HB.out)⟩
       ·
        rw [if_neg c7] at H;exact absurd H (by simp)
      ·
       rw [if_neg c6] at H;have zic : decide (x5_2 < (l0.length : Int)) = false := decide_eq_false c6;clear c6;replace H := Option.bind_eq_some_iff.mp H;obtain ⟨t245, A170, H⟩ := H;replace H : (some (t245 == 0)) = some r := H;have A17 := zf.mk A170;clear A170;obtain rfl := Option.some.inj H;go_wp2_with (first | ((with_reducible refine Zw (f := 61) rfl ?_); refine Xc (some 39) rfl rfl Tryz.func61 (by kernel_rfl) rfl #[.slice A0 l0.length c0, .int .i64 (wrap64 ((l0.length : Int) - 1))] rfl (by (try simp only [List.map_toArray, List.map_cons, List.map_nil]); first | done | rfl | (simp only [List.length_drop, List.length_take]; rfl)) ?_; (with_reducible refine (Zm.calls k2 _ _ l0 (wrap64 ((l0.length : Int) - 1)) t245 _ ?side1 ?side2 A17.out).mono ?_); (case side1 => repeat (first | exact (Kd.Zq HR0.out HB.out) | (with_reducible refine Kd.Yg ?_ _) | (with_reducible refine Kd.Ym ?_ _) | (with_reducible refine Kd.Yv ?_))); (case side2 => exact HC0.out); rintro e w' ⟨rfl, ⟨nd, rfl⟩⟩; refine ⟨_, rfl, ?_⟩))
       go_ret;exact ⟨by first | rfl | (simp [Zd, Ze] <;> rfl) | (simp [*, Zd, Ze] <;> rfl), by repeat (first | (with_reducible first | exact HB.out | apply zh | apply zg | apply zk) | exact HB.out)⟩
open Go.RowKit Go.Proofs.YtfcjpkkglffnmaaGreatDoorW.PrintWords Go.Proofs.YtfcjpkkglffnmaaGreatDoorW.PrintLast Go.Proofs.YtfcjpkkglffnmaaGreatDoorW.PrintMore
attribute [local go_sem] Vz V3 za0 za1 Vd Ve V4 V5
set_option linter.unusedVariables false
set_option linter.unusedSimpArgs false
def V7.f (k : Nat) (vk : List (S42)) (vw : List (S44)) : Option (Bool) := (Zz.f k vk).bind fun t251 => (if t251 = true then ((Zo.f k vw true).bind fun t252 => (some t252)) else (some false))
set_option maxHeartbeats 8000000 in
set_option maxRecDepth 100000 in
theorem V7.calls (k : Nat) (Ye : Option Addr) (Yf : Nat) (vk : List (S42)) (Xb : Option Addr) (Yo : Nat) (vw : List (S44)) (r : Bool) (w : World) (hr0_0 : Kd.C k42 w Ye vk.length vk) (hc0_0 : vk.length ≤ Yf) (hr0_1 : Kd.C k44 w Xb vw.length vw) (hc0_1 : vw.length ≤ Yo) (h : V7.f k vk vw = some r) :
  Calls Tryz.prog 22 #[.agg #[.slice Ye vk.length Yf, .slice Xb vw.length Yo]] w fun e w' => e = .returned (.bool r) ∧ Below w.heap.size w w' := by
 have hu25 := Tryz.underlying25;have zbt := zf.mk hr0_0;have zcd := zf.mk hc0_0;clear hr0_0 hc0_0;have zdv := zf.mk hr0_1;have zdw := zf.mk hc0_1;clear hr0_1 hc0_1;have HB := zf.mk (Below.refl w.heap.size w);have H : ((Zz.f k vk).bind fun t251 => (if t251 = true then ((Zo.f k vw true).bind fun t252 => (some t252)) else (some false))) = some r := h;clear h;replace H := Option.bind_eq_some_iff.mp H;obtain ⟨t251, A20, H⟩ := H;replace H : (if t251 = true then ((Zo.f k vw true).bind fun t252 => (some t252)) else (some false)) = some r := H;have A2 := zf.mk A20;clear A20;by_cases c3 : t251 = true
 ·
  subst c3;have H1 : ((Zo.f k vw true).bind fun t252 => (some t252)) = some r := by rw [if_pos rfl] at H; exact H
  clear H;have H := H1;clear H1;replace H := Option.bind_eq_some_iff.mp H;obtain ⟨t252, A40, H⟩ := H;replace H : (some t252) = some r := H;have A4 := zf.mk A40;clear A40;obtain rfl := Option.some.inj H;go_enter Tryz.func22, Tryz.ntmps22;go_wp2_with (first | ((with_reducible refine Yx (N := 1) rfl ?_); refine Y7 ?hg (N := 1) ?hd (cs := #[.slice Ye vk.length Yf, .slice Xb vw.length Yo]) (t := 25) ?hr ?_; (case hd => rfl); (case hg => rfl); (case hr => first | (go_simp; done) | (go_simp; rfl)); intro znm hg w5 hbox hb; have n0_ := zf.mk (Zc (by repeat (first | (with_reducible first | exact HB.out | apply zh | apply zg | apply zk) | exact HB.out)) hb); have n1_ := zf.mk (hbox); have n2_ := zf.mk ((by rw [hg]; exact (xn (by repeat (first | (with_reducible first | exact HB.out | apply zh | apply zg | apply zk) | exact HB.out))) : w.heap.size ≤ znm)); have n3_ := zf.mk ((by rw [hg]; exact (xn (by repeat (first | (with_reducible first | exact HB.out | apply zh | apply zg | apply zk) | exact HB.out))) : w.heap.size ≤ znm)); clear HB; have HB := n0_; have zhq := n1_; have GW250 := n2_; have zqw := n3_; clear n0_ n1_ n2_ n3_; clear hb hbox hg; obtain ⟨zom, zon⟩ := Xt zhq.out; have zoo := zx zhq.out 0; have zop := zx zhq.out 1) | ((with_reducible refine Zw (f := 29) rfl ?_); refine Xc (some 5) rfl rfl Tryz.func29 (by kernel_rfl) rfl #[.slice Ye vk.length Yf] rfl (by (try simp only [List.map_toArray, List.map_cons, List.map_nil]); first | done | rfl | (simp only [List.length_drop, List.length_take]; rfl)) ?_; (with_reducible refine (Zz.calls k _ _ vk true _ ?side1 ?side2 A2.out).mono ?_); (case side1 => repeat (first | exact (Kd.Zq zbt.out HB.out) | (with_reducible refine Kd.Yg ?_ _) | (with_reducible refine Kd.Ym ?_ _) | (with_reducible refine Kd.Yv ?_))); (case side2 => exact zcd.out); rintro e w' ⟨rfl, ⟨nd, rfl⟩⟩; refine ⟨_, rfl, ?_⟩) | (go_at_call 30; (with_reducible refine (Zo.calls k _ _ vw true t252 _ ?side1 ?side2 A4.out).mono ?_); (case side1 => repeat (first | exact (Kd.Zq zdv.out (by repeat (first | (with_reducible first | exact HB.out | apply zh | apply zg | apply zk | refine zi ?_ zqw.out) | exact HB.out))) | (with_reducible refine Kd.Yg ?_ _) | (with_reducible refine Kd.Ym ?_ _) | (with_reducible refine Kd.Yv ?_))); (case side2 => exact zdw.out); rintro e w7 ⟨rfl, hb⟩; have n0_ := zf.mk (zy (g := znm) (o := .cells #[.slice Ye vk.length Yf, .slice Xb vw.length Yo] 25 (0, 0)) (by (with_reducible repeat (first | refine zn ?_ _ | refine zq ?_ | refine zo ?_ _)); exact zhq.out) hb); have n1_ := zf.mk (Zc (by repeat (first | (with_reducible first | exact HB.out | apply zh | apply zg | apply zk | refine zi ?_ zqw.out) | exact HB.out)) hb); clear zhq; clear HB; have zhq := n0_; have HB := n1_; clear n0_ n1_; (try clear hb); (try clear hb2); (try clear hk); (try clear hi)))
  go_ret;exact ⟨by first | rfl | (simp [Zd, Ze] <;> rfl) | (simp [*, Zd, Ze] <;> rfl), by repeat (first | (with_reducible first | exact HB.out | apply zh | apply zg | apply zk | refine zi ?_ zqw.out) | exact HB.out)⟩
 ·
  replace c3 := Bool.eq_false_iff.mpr c3;subst c3;have H1 : (some false) = some r := by rw [if_neg (show ¬ (false = true) by decide)] at H; exact H
  clear H;have H := H1;clear H1;obtain rfl := Option.some.inj H;go_enter Tryz.func22, Tryz.ntmps22;go_wp2_with (first | ((with_reducible refine Yx (N := 1) rfl ?_); refine Y7 ?hg (N := 1) ?hd (cs := #[.slice Ye vk.length Yf, .slice Xb vw.length Yo]) (t := 25) ?hr ?_; (case hd => rfl); (case hg => rfl); (case hr => first | (go_simp; done) | (go_simp; rfl)); intro znm hg w8 hbox hb; have n0_ := zf.mk (Zc (by repeat (first | (with_reducible first | exact HB.out | apply zh | apply zg | apply zk) | exact HB.out)) hb); have n1_ := zf.mk (hbox); have n2_ := zf.mk ((by rw [hg]; exact (xn (by repeat (first | (with_reducible first | exact HB.out | apply zh | apply zg | apply zk) | exact HB.out))) : w.heap.size ≤ znm)); have n3_ := zf.mk ((by rw [hg]; exact (xn (by repeat (first | (with_reducible first | exact HB.out | apply zh | apply zg | apply zk) | exact HB.out))) : w.heap.size ≤ znm)); clear HB; have HB := n0_; have zhq := n1_; have GW250 := n2_; have zqw := n3_; clear n0_ n1_ n2_ n3_; clear hb hbox hg; obtain ⟨zjq, zjr⟩ := Xt zhq.out; have zjs := zx zhq.out 0; have zjt := zx zhq.out 1) | ((with_reducible refine Zw (f := 29) rfl ?_); refine Xc (some 5) rfl rfl Tryz.func29 (by kernel_rfl) rfl #[.slice Ye vk.length Yf] rfl (by (try simp only [List.map_toArray, List.map_cons, List.map_nil]); first | done | rfl | (simp only [List.length_drop, List.length_take]; rfl)) ?_; (with_reducible refine (Zz.calls k _ _ vk false _ ?side1 ?side2 A2.out).mono ?_); (case side1 => repeat (first | exact (Kd.Zq zbt.out HB.out) | (with_reducible refine Kd.Yg ?_ _) | (with_reducible refine Kd.Ym ?_ _) | (with_reducible refine Kd.Yv ?_))); (case side2 => exact zcd.out); rintro e w' ⟨rfl, ⟨nd, rfl⟩⟩; refine ⟨_, rfl, ?_⟩))
  go_ret;exact ⟨by first | rfl | (simp [Zd, Ze] <;> rfl) | (simp [*, Zd, Ze] <;> rfl), by repeat (first | (with_reducible first | exact HB.out | apply zh | apply zg | apply zk | refine zi ?_ zqw.out) | exact HB.out)⟩
def nmOf (l : List S42) (i : Nat) : List UInt8 := (Zp l i).f0.toList
def dupB (l : List S42) : Bool := (List.range l.length).any fun i => (List.range i).any fun j => nmOf l i == nmOf l j
theorem zma {l : List S42} {i j : Nat} (hi : i < l.length) (hj : j < i) (h : nmOf l i = nmOf l j) : dupB l = true := by
 unfold dupB;rw [List.any_eq_true];refine ⟨i, List.mem_range.2 hi, ?_⟩;rw [List.any_eq_true];exact ⟨j, List.mem_range.2 hj, beq_iff_eq.2 h⟩
theorem zph {l : List S42} (h : ∀ i j, i < l.length → j < i → ¬ nmOf l i = nmOf l j) : dupB l = false := by
 cases hd : dupB l
 ·
  rfl
 ·
  unfold dupB at hd;rw [List.any_eq_true] at hd;obtain ⟨i, hi, hd⟩ := hd;rw [List.any_eq_true] at hd;obtain ⟨j, hj, hd⟩ := hd;exact absurd (beq_iff_eq.1 hd) (h i j (List.mem_range.1 hi) (List.mem_range.1 hj))
def Xr.f (k : Nat) (l0 : List (S42)) (l1 : List (S44)) : Option ((List (S42)) × (List (S44)) × Int × Int) :=
 (V7.f k l0 l1).bind fun m => if m = true then (if l0.length ≤ 4 ∧ 1 ≤ l1.length ∧ l1.length ≤ 512 then
  (if dupB l0 = true then some ([], [], 0, 602) else (swalk.f k l0 (l1, 0, 0) ((l1.length : Int) - 1) []).bind fun p =>
   if p.2.1 = 0 then some (l0, p.1, 0, 0) else some ([], [], p.2.2, p.2.1)) else none) else some ([], [], 0, 600)
theorem heapOp : Kd.Heap k42 := by
 unfold k42;exact Kd.heap_iso _ (Kd.zm9 Kd.zpu (Kd.zm9 (Kd.zpt _) (Kd.zpt _)))
set_option maxRecDepth 100000 in
set_option maxHeartbeats 16000000 in
theorem Xr.calls (k : Nat) (Ye : Option Addr) (Yf : Nat) (vk : List (S42)) (Xb : Option Addr) (Yo : Nat) (vw : List (S44)) (r1 : List (S42)) (r2 : List (S44)) (r3 : Int) (r4 : Int) (w : World) (hr0_0 : Kd.C k42 w Ye vk.length vk) (hc0_0 : vk.length ≤ Yf) (hr0_1 : Kd.C k44 w Xb vw.length vw) (hc0_1 : vw.length ≤ Yo) (h : Xr.f k vk vw = some (r1, r2, r3, r4)) :
  Calls Tryz.prog 6 #[.agg #[.slice Ye vk.length Yf, .slice Xb vw.length Yo]] w fun e w' => ∃ v0_ v1_ : Value, e = .returned (.tuple #[.agg #[v0_, v1_], .int .i64 r3, .int .i64 r4]) ∧ Kd.R k42 42 w' w.heap.size (fun _ => True) v0_ r1 ∧ Kd.R k44 44 w' w.heap.size (fun _ => True) v1_ r2 ∧ Below w.heap.size w w' := by
 unfold Xr.f at h;replace h := Option.bind_eq_some_iff.mp h;obtain ⟨m, hm, h⟩ := h;have HC0 := zf.mk hr0_0;have HC1 := zf.mk hr0_1;have HL0 := zf.mk hc0_0;have HL1 := zf.mk hc0_1;have HM := zf.mk hm;clear hr0_0 hr0_1 hc0_0 hc0_1 hm;cases m with
 | false =>
  simp only [Bool.false_eq_true, if_false, Option.some.injEq, Prod.mk.injEq] at h;obtain ⟨rfl, rfl, rfl, rfl⟩ := h;have P2 := zf.mk (zec w Ye Xb vk.length Yf vw.length Yo);go_enter Tryz.func6, Tryz.ntmps6;go_wp2_with fail
  generalize hW2 : ((w.alloc (.cells #[.slice Ye vk.length Yf, .slice Xb vw.length Yo] 25)).alloc (.cells #[.slice none 0 0, .slice none 0 0] 25)) = w2 at *;clear hW2;refine (V7.calls k Ye Yf vk Xb Yo vw false w2 (Kd.Zq HC0.out P2.out.1) HL0.out (Kd.Zq HC1.out P2.out.1) HL1.out HM.out).mono ?_;rintro e w3 ⟨rfl, hb3⟩;have BR := zf.mk (zy P2.out.2.2.1 hb3);have HB3 := zf.mk (P2.out.1.trans (hb3.mono P2.out.1.size));have r0 : w3.cell? ⟨w.heap.size + 1, 0, none⟩ = some (.slice none 0 0) := yc BR.out 0;have r1 : w3.cell? ⟨w.heap.size + 1, 1, none⟩ = some (.slice none 0 0) := yc BR.out 1;have f0 : w3.frozen? ⟨w.heap.size + 1, 0, none⟩ = false := zx BR.out 0;have f1 : w3.frozen? ⟨w.heap.size + 1, 1, none⟩ = false := zx BR.out 1;clear hb3;go_wp2_with fail
  refine bodyPost_ret (zb6 rfl _ _ (w.heap.size + 1) 25 #[.slice none 0 0, .slice none 0 0] (0, 0) _ rfl (Xz (Xz BR.out 0 (.slice none 0 0)) 1 (.slice none 0 0)) Tryz.underlying25 rfl (by kernel_rfl)) rfl ?_;exact ⟨_, _, rfl, Kd.zfg _ _ _ _ _, Kd.zfg _ _ _ _ _, (HB3.out.setCell (by show w.heap.size ≤ w.heap.size + 1; omega) _).setCell (by show w.heap.size ≤ w.heap.size + 1; omega) _⟩
 | true =>
  simp only [if_true] at h;by_cases hc : vk.length ≤ 4 ∧ 1 ≤ vw.length ∧ vw.length ≤ 512
  ·
   rw [if_pos hc] at h;obtain ⟨h4, h1, h512⟩ := hc;obtain ⟨ad1, rfl, _⟩ := HC1.out.2.2 (by omega);have P2 := zf.mk (zec w Ye (some ad1) vk.length Yf vw.length Yo);have H := zf.mk h;clear h;go_enter Tryz.func6, Tryz.ntmps6;go_wp2_with fail
   generalize hW2 : ((w.alloc (.cells #[.slice Ye vk.length Yf, .slice (some ad1) vw.length Yo] 25)).alloc (.cells #[.slice none 0 0, .slice none 0 0] 25)) = w2 at *;clear hW2;refine (V7.calls k Ye Yf vk (some ad1) Yo vw true w2 (Kd.Zq HC0.out P2.out.1) HL0.out (Kd.Zq HC1.out P2.out.1) HL1.out HM.out).mono ?_;rintro e w3 ⟨rfl, hb3⟩;have BR := zf.mk (zy P2.out.2.2.1 hb3);have BP := zf.mk (zy P2.out.2.1 hb3);have HB3 := zf.mk (P2.out.1.trans (hb3.mono P2.out.1.size));clear hb3 P2 HM;go_wp2_with fail
   go_loopw [5] (fun v5 wr => ∃ (i : Nat), v5 = .int .i64 i ∧ i ≤ vk.length ∧ zf (∀ i' j, i' < i → j < i' → ¬ nmOf vk i' = nmOf vk j) ∧ zf (Below w3.heap.size w3 wr)) (fun v5 _ => vk.length - (intOf v5).toNat)
   case atStart => exact ⟨0, rfl, Nat.zero_le _, ⟨fun i' j h => absurd h (Nat.not_lt_zero _)⟩, ⟨Below.refl _ _⟩⟩
   case round =>
    obtain ⟨i, rfl, hi, HI, HW⟩ := hrel;have BPR := zf.mk (zy BP.out HW.out);have BRR := zf.mk (zy BR.out HW.out);have HWR := zf.mk (HB3.out.trans (HW.out.mono HB3.out.size));have p0 : wr.cell? ⟨w.heap.size, 0, none⟩ = some (.slice Ye vk.length Yf) := yc BPR.out 0;have p1 : wr.cell? ⟨w.heap.size, 1, none⟩ = some (.slice (some ad1) vw.length Yo) := yc BPR.out 1;by_cases hlt : i < vk.length
    ·
     clear p1;go_wp2_with fail
     go_loopw [6] (fun v6 wi => ∃ (j : Nat), v6 = .int .i64 j ∧ j ≤ i ∧ zf (∀ j', j' < j → ¬ nmOf vk i = nmOf vk j') ∧ zf (Below w3.heap.size w3 wi)) (fun v6 _ => i - (intOf v6).toNat)
     case atStart => exact ⟨0, rfl, Nat.zero_le _, ⟨fun j h => absurd h (Nat.not_lt_zero _)⟩, HW⟩
     case round =>
      obtain ⟨j, rfl, hj, HJ, HV⟩ := hrel;clear p0 HW BPR BRR HWR;have BPR := zf.mk (zy BP.out HV.out);have BRR := zf.mk (zy BR.out HV.out);have HWR := zf.mk (HB3.out.trans (HV.out.mono HB3.out.size));have p0 : wr.cell? ⟨w.heap.size, 0, none⟩ = some (.slice Ye vk.length Yf) := yc BPR.out 0;by_cases hjlt : j < i
      ·
       have hcr : Kd.C k42 wr Ye vk.length vk := Kd.Zq HC0.out HWR.out;obtain ⟨ad, e1, hx0, _, _⟩ := za5 hcr i (by omega) (by omega);cases e1;obtain ⟨ad', e2, hy0, _, _⟩ := za5 hcr j (by omega) (by omega);cases e2;rw [Int.toNat_natCast] at hx0 hy0;have z1 : (i : Int) < (vk.length : Int) := by omega
       have z2 : (j : Int) < (vk.length : Int) := by omega
       have z3 : (j : Int) < (i : Int) := by omega
       clear hcr;by_cases hb : nmOf vk i = nmOf vk j
       ·
        have hd := zma hlt hjlt hb;have h := H.out;rw [if_pos hd] at h;simp only [Option.some.injEq, Prod.mk.injEq] at h;obtain ⟨rfl, rfl, rfl, rfl⟩ := h;have b1 : ((Zp vk i).f0.toList == (Zp vk j).f0.toList) = true := beq_iff_eq.2 hb;clear hd hb H HI HJ;go_wp2_with fail
        go_quiet (fail)
        have r0 : (wr.drewN nq).cell? ⟨w.heap.size + 1, 0, none⟩ = some (.slice none 0 0) := yc BRR.out 0;have r1 : (wr.drewN nq).cell? ⟨w.heap.size + 1, 1, none⟩ = some (.slice none 0 0) := yc BRR.out 1;have f0 : (wr.drewN nq).frozen? ⟨w.heap.size + 1, 0, none⟩ = false := zx BRR.out 0;have f1 : (wr.drewN nq).frozen? ⟨w.heap.size + 1, 1, none⟩ = false := zx BRR.out 1;go_wp2_with fail
        refine bodyPost_ret (zb6 rfl _ _ (w.heap.size + 1) 25 #[.slice none 0 0, .slice none 0 0] (0, 0) _ rfl (Xz (Xz (zn BRR.out nq) 0 (.slice none 0 0)) 1 (.slice none 0 0)) Tryz.underlying25 rfl (by kernel_rfl)) rfl ?_;exact ⟨_, _, rfl, Kd.zfg _ _ _ _ _, Kd.zfg _ _ _ _ _, ((zg HWR.out nq).setCell (by show w.heap.size ≤ w.heap.size + 1; omega) _).setCell (by show w.heap.size ≤ w.heap.size + 1; omega) _⟩
       ·
        have b1 : ((Zp vk i).f0.toList == (Zp vk j).f0.toList) = false := beq_eq_false_iff_ne.mpr hb;go_wp2_with fail
        go_quiet (fail)
        go_wp2_with fail
        go_roundw
        case rel => exact ⟨j + 1, by go_num, by omega, ⟨fun j' h => by
         by_cases h2 : j' < j
         ·
          exact HJ.out j' h2
         ·
          obtain rfl : j' = j := by omega
          exact hb⟩, ⟨zg HV.out nq⟩⟩
        case measure => simp [intOf] <;> omega
      ·
       obtain rfl : j = i := by omega
       clear p0;go_wp2_with fail
       go_roundw
       case rel => exact ⟨j + 1, by go_num, by omega, ⟨fun i' j' h h2 => by
        by_cases h3 : i' < j
        ·
         exact HI.out i' j' h3 h2
        ·
         obtain rfl : i' = j := by omega
         exact HJ.out j' h2⟩, HV⟩
       case measure => simp [intOf] <;> omega
    ·
     have hd : dupB vk = false := zph (fun i' j hi' hj => HI.out i' j (by omega) hj);have h := H.out;rw [hd, if_neg (by simp)] at h;replace h := Option.bind_eq_some_iff.mp h;obtain ⟨⟨ns2, code2, at2⟩, hsw, h⟩ := h;have HSW := zf.mk hsw;have H2 := zf.mk h;clear h hsw H HI hd;go_wp2_with fail
     refine zlf (n := 9) (S := fun w' => w'.cell? ⟨w.heap.size, 0, none⟩ = some (.slice Ye vk.length Yf) ∧ w'.cell? ⟨w.heap.size, 1, none⟩ = some (.slice (some ad1) vw.length Yo)) (ds := []) #[false, false, false, false, false, false, false, false, false] (by kernel_rfl) rfl rfl ⟨p0, p1⟩ (fun hHeld => ?_);refine zad (i := 0) (N := some 38) (v := ?_) (a' := ?_) #[true, false, false, false, false, false, false, false, false] rfl rfl (by kernel_rfl) (fun _ _ _ h => h) (Or.inl ⟨by rfl, ?_⟩) ?_ ?_;rotate_left
     ·
      intro w';go_simp
      with_reducible rfl
     rotate_left
     ·
      simp only [Act.put, List.setIfInBounds_toArray, List.set_cons_zero, List.set_cons_succ, Yy, Y6];rfl
     refine zad (i := 3) (N := some 41) (v := ?_) (a' := ?_) #[true, false, false, true, false, false, false, false, false] rfl rfl (by kernel_rfl) (fun _ _ _ h => h) (Or.inl ⟨by rfl, ?_⟩) ?_ ?_;rotate_left
     ·
      intro w';go_simp
      with_reducible rfl
     rotate_left
     ·
      simp only [Act.put, List.setIfInBounds_toArray, List.set_cons_zero, List.set_cons_succ, Yy, Y6];rfl
     refine zes (i := 1) (N := some 39) (v := ?_) (a' := ?_) #[true, true, false, true, false, false, false, false, false] rfl rfl (by kernel_rfl) (fun _ _ _ h => h) (Or.inl ⟨by rfl, ?_⟩) hHeld ?_ ?_;rotate_left
     ·
      rintro w' ⟨s0, s1⟩;go_simp
      with_reducible rfl
     rotate_left
     ·
      simp only [Act.put, List.setIfInBounds_toArray, List.set_cons_zero, List.set_cons_succ, Yy, Y6];rfl
     refine zes (i := 4) (N := some 42) (v := ?_) (a' := ?_) #[true, true, false, true, true, false, false, false, false] rfl rfl (by kernel_rfl) (fun _ _ _ h => h) (Or.inl ⟨by rfl, ?_⟩) hHeld ?_ ?_;rotate_left
     ·
      rintro w' ⟨s0, s1⟩;go_simp
      with_reducible rfl
     rotate_left
     ·
      simp only [Act.put, List.setIfInBounds_toArray, List.set_cons_zero, List.set_cons_succ, Yy, Y6];rfl
     refine one_ (i := 2) (N := some 40) #[true, true, true, true, true, false, false, false, false] rfl rfl (by kernel_rfl) (by decide) (fun K hK => ?_);refine Kd.zlb k44 (w0 := w) w.heap.size 44 (by rfl) (N := 40) rfl (xs := ([] : List S44)) (inner := []) (ok := fun _ => True) (okp := fun _ => True) ?hr ?hp (fun _ hk => hk) trivial (Yw HWR.out) HWR.out.size (by simp) ?_
     (case hr => first | (go_simp; done) | (go_simp; rfl))
     (case hp => exact Reps.none _ _)
     intro v40 w40 hr_w40 hb_w40 hg_w40 hn_w40;have q0_w40 := zby (zq BPR.out) hg_w40 (by simp);have q1_w40 := zby (zq BRR.out) hg_w40 (by simp);refine hK.out _ _ ⟨(yc q0_w40 0), (yc q0_w40 1)⟩ (fun hHeld => ?_);clear hK K;refine zf8 (a' := ?_) ?_ ?_;rotate_left
     ·
      show Act.put _ (some 40) _ = _;simp only [Act.put, List.setIfInBounds_toArray, List.set_cons_zero, List.set_cons_succ, Yy, Y6];rfl
     refine one_ (i := 5) (N := some 43) #[true, true, true, true, true, true, false, false, false] rfl rfl (by kernel_rfl) (by decide) (fun K hK => ?_);refine Kd.zfh k44 (w0 := w) w.heap.size (by rfl) (.tmp 40) (.tmp 42) 23 44 (.agg #[(.int .i64 0), (.int .i64 0), (.int .i64 0), (.int .i64 0), (.int .i64 0), (.string ⟨#[]⟩), (.string ⟨#[]⟩), (.string ⟨#[]⟩), (.string ⟨#[]⟩), (.int .i64 0)]) 112 rfl Tryz.underlying23 zjk rfl (by decide) (by omega) v40 [] vw _ _ _ (fun _ => True) (fun _ => False) rfl rfl hr_w40 (Kd.Zq HC1.out hb_w40) (fun _ _ h => h) (fun _ h => h.elim) (fun _ _ => trivial) hb_w40 hb_w40.size (by simp; omega) ?_;intro v43 w43 hr_w43 hb_w43 hg_w43 hat_w43;rw [List.nil_append] at hr_w43;obtain ⟨bl, hbl, hble⟩ := hn_w40;have hnP : ∀ q, q < wr.heap.size → some q ≠ v40.ownBlock := fun q hq e => by rw [hbl] at e; injection e with e; have : wr.heap.size ≤ bl := hble; omega
     have q0_w43 := zby q0_w40 hg_w43 (hnP _ (Yp BPR.out));have q1_w43 := zby q1_w40 hg_w43 (hnP _ (Yp BRR.out));obtain ⟨gn, cap, rfl, hgn0, hgn1, cn_, hgnT⟩ := Kd.zk8 hr_w43 (by omega);refine hK.out _ _ ⟨(yc q0_w43 0), (yc q0_w43 1)⟩ (fun hHeld => ?_);clear hK K;refine zf8 (a' := ?_) ?_ ?_;rotate_left
     ·
      show Act.put _ (some 43) _ = _;simp only [Act.put, List.setIfInBounds_toArray, List.set_cons_zero, List.set_cons_succ, Yy, Y6];rfl
     refine zad (i := 6) (N := some 44) (v := ?_) (a' := ?_) #[true, true, true, true, true, true, true, false, false] rfl rfl (by kernel_rfl) (fun _ _ _ h => h) (Or.inl ⟨by rfl, ?_⟩) ?_ ?_;rotate_left
     ·
      intro w';go_simp
      with_reducible rfl
     rotate_left
     ·
      simp only [Act.put, List.setIfInBounds_toArray, List.set_cons_zero, List.set_cons_succ, Yy, Y6];rfl
     refine one_ (i := 7) (N := some 45) #[true, true, true, true, true, true, true, true, false] rfl rfl (by kernel_rfl) (by decide) (fun K hK => ?_);refine box_step ?hg (N := 45) ?hd (cs := #[.slice Ye vk.length Yf, .slice (some ⟨gn, 0, none⟩) vw.length cap, .int .i64 0, .int .i64 0]) (t := 54) ?hr ?_; (case hd => rfl); (case hg => rfl); (case hr => first | (go_simp; done) | (go_simp; rfl));intro gs hgs w45 hbox hb_w45;have q0_w45 := zy q0_w43 hb_w45;have q1_w45 := zy q1_w43 hb_w45;refine hK.out _ _ ⟨(yc q0_w45 0), (yc q0_w45 1)⟩ (fun hHeld => ?_);clear hK K;refine zf8 (a' := ?_) ?_ ?_;rotate_left
     ·
      show Act.put _ (some 45) _ = _;simp only [Act.put, List.setIfInBounds_toArray, List.set_cons_zero, List.set_cons_succ, Yy, Y6];rfl
     refine zad (i := 8) (N := some 7) (v := ?_) (a' := ?_) #[true, true, true, true, true, true, true, true, true] rfl rfl (by kernel_rfl) (fun _ _ _ h => h) (Or.inl ⟨by rfl, ?_⟩) ?_ ?_;rotate_left
     ·
      intro w';go_simp
      with_reducible rfl
     rotate_left
     ·
      simp only [Act.put, List.setIfInBounds_toArray, List.set_cons_zero, List.set_cons_succ, Yy, Y6];rfl
     refine zps (by kernel_rfl) ?_;try rw [← hgs]
     have hne0 : w.heap.size ≠ gn := blk_ne q0_w43 hgnT (by decide);have hne1 : w.heap.size + 1 ≠ gn := blk_ne q1_w43 hgnT (by decide);have hlt43 : w.heap.size + 1 < w43.heap.size := Yp q1_w43;have hgsgn : gs ≠ gn := by omega
     have hgsR : gs ≠ w.heap.size + 1 := by omega
     have hgs0 : gs ≠ w.heap.size := by omega
     have HB45 := zf.mk (hb_w43.trans (hb_w45.mono hb_w43.size));have HOK := zf.mk (show ∀ k, k < w.heap.size → ¬ own2 gs gn k from fun k hk c => by rcases c with rfl | rfl <;> omega);have HOB := zf.mk (show ∀ k, own2 gs gn k → w.heap.size ≤ k from fun k c => by rcases c with rfl | rfl <;> omega);have SWX := zf.mk (show SW (fun k => k < w.heap.size) w45 w.heap.size gs gn cap Ye Yf vk vw.length vw 0 0 from ⟨hbox, Kd.zbe (Kd.C_F heapOp HC0.out) HB45.out, Kd.Zg (Kd.Zu (Kd.zgi rfl hr_w43) (fun k hk => (show k = gn by have h9 : some k = some gn := hk; injection h9))) hb_w45, rfl⟩);have Q0 := zf.mk q0_w45;have Q1 := zf.mk q1_w45;have g1 : w45.cell? ⟨gs, 1, none⟩ = some (.slice (some ⟨gn, 0, none⟩) vw.length cap) := (yc hbox 1).trans rfl;clear hgs q0_w40 q1_w40 q0_w43 q1_w43 q0_w45 q1_w45 hbox hr_w40 hr_w43 hb_w40 hb_w43 hb_w45 hg_w40 hg_w43 hat_w43 hgnT hnP hbl hHeld p0 p1;go_wp2_with fail
     refine (zsg k (fun k => k < w.heap.size) gs gn cap vw.length Ye Yf vk vw 0 0 ((vw.length : Int) - 1) none 0 [] ns2 code2 at2 w.heap.size w45 HOK.out SWX.out (Kd.F_nil _ _ _) (Nat.le_refl _) HSW.out).mono ?_;rintro e w6 ⟨rfl, hs6, hf6⟩;have HS6 := zf.mk hs6;have BP6 := zf.mk ((hf6.2.1 _ (Yp Q0.out) (fun c => by rcases c with c | c <;> omega)).trans Q0.out);have BR6 := zf.mk ((hf6.2.1 _ (Yp Q1.out) (fun c => by rcases c with c | c <;> omega)).trans Q1.out);have HB6 := zf.mk (HB45.out.trans (hf6.toBelow HOB.out HB45.out.size));have z2 : w6.cell? ⟨gs, 2, none⟩ = some (.int .i64 code2) := (yc hs6.blk 2).trans rfl;have h := H2.out;clear g1 hs6 hf6 SWX Q0 Q1 HSW H2;by_cases hcode : code2 = 0
     ·
      simp only [if_pos hcode, Option.some.injEq, Prod.mk.injEq] at h;obtain ⟨rfl, rfl, rfl, rfl⟩ := h;have b1 : (code2 != 0) = false := by rw [hcode]; rfl
      clear hcode;go_wp2_with fail
      clear z2 b1;refine zlf (n := 12) (S := fun w' => w'.cell? ⟨w.heap.size, 0, none⟩ = some (.slice Ye vk.length Yf) ∧ w'.cell? ⟨gs, 1, none⟩ = some (.slice (some ⟨gn, 0, none⟩) vw.length cap)) (ds := []) #[false, false, false, false, false, false, false, false, false, false, false, false] (by kernel_rfl) rfl rfl ⟨(yc BP6.out 0), (yc HS6.out.blk 1)⟩ (fun hHeld => ?_);refine zad (i := 1) (N := some 69) (v := ?_) (a' := ?_) #[false, true, false, false, false, false, false, false, false, false, false, false] rfl rfl (by kernel_rfl) (fun _ _ _ h => h) (Or.inl ⟨by rfl, ?_⟩) ?_ ?_;rotate_left
      ·
       intro w';go_simp
       with_reducible rfl
      rotate_left
      ·
       simp only [Act.put, List.setIfInBounds_toArray, List.set_cons_zero, List.set_cons_succ, Yy, Y6];rfl
      refine zad (i := 4) (N := some 72) (v := ?_) (a' := ?_) #[false, true, false, false, true, false, false, false, false, false, false, false] rfl rfl (by kernel_rfl) (fun _ _ _ h => h) (Or.inl ⟨by rfl, ?_⟩) ?_ ?_;rotate_left
      ·
       intro w';go_simp
       with_reducible rfl
      rotate_left
      ·
       simp only [Act.put, List.setIfInBounds_toArray, List.set_cons_zero, List.set_cons_succ, Yy, Y6];rfl
      refine zad (i := 5) (N := some 73) (v := ?_) (a' := ?_) #[false, true, false, false, true, true, false, false, false, false, false, false] rfl rfl (by kernel_rfl) (fun _ _ _ h => h) (Or.inl ⟨by rfl, ?_⟩) ?_ ?_;rotate_left
      ·
       intro w';go_simp
       with_reducible rfl
      rotate_left
      ·
       simp only [Act.put, List.setIfInBounds_toArray, List.set_cons_zero, List.set_cons_succ, Yy, Y6];rfl
      refine zad (i := 6) (N := some 74) (v := ?_) (a' := ?_) #[false, true, false, false, true, true, true, false, false, false, false, false] rfl rfl (by kernel_rfl) (fun _ _ _ h => h) (Or.inl ⟨by rfl, ?_⟩) ?_ ?_;rotate_left
      ·
       intro w';go_simp
       with_reducible rfl
      rotate_left
      ·
       simp only [Act.put, List.setIfInBounds_toArray, List.set_cons_zero, List.set_cons_succ, Yy, Y6];rfl
      refine zes (i := 2) (N := some 70) (v := ?_) (a' := ?_) #[false, true, true, false, true, true, true, false, false, false, false, false] rfl rfl (by kernel_rfl) (fun _ _ _ h => h) (Or.inl ⟨by rfl, ?_⟩) hHeld ?_ ?_;rotate_left
      ·
       rintro w' ⟨s0, s1⟩;go_simp
       with_reducible rfl
      rotate_left
      ·
       simp only [Act.put, List.setIfInBounds_toArray, List.set_cons_zero, List.set_cons_succ, Yy, Y6];rfl
      refine zes (i := 7) (N := some 75) (v := ?_) (a' := ?_) #[false, true, true, false, true, true, true, true, false, false, false, false] rfl rfl (by kernel_rfl) (fun _ _ _ h => h) (Or.inl ⟨by rfl, ?_⟩) hHeld ?_ ?_;rotate_left
      ·
       rintro w' ⟨s0, s1⟩;go_simp
       with_reducible rfl
      rotate_left
      ·
       simp only [Act.put, List.setIfInBounds_toArray, List.set_cons_zero, List.set_cons_succ, Yy, Y6];rfl
      refine one_ (i := 0) (N := some 68) #[true, true, true, false, true, true, true, true, false, false, false, false] rfl rfl (by kernel_rfl) (by decide) (fun K hK => ?_);refine Kd.zlb k42 (w0 := w) w.heap.size 42 (by rfl) (N := 68) rfl (xs := ([] : List S42)) (inner := []) (ok := fun _ => True) (okp := fun _ => True) ?hr ?hp (fun _ hk => hk) trivial (Yw HB6.out) HB6.out.size (by simp) ?_
      (case hr => first | (go_simp; done) | (go_simp; rfl))
      (case hp => exact Reps.none _ _)
      intro v68 w68 hr_w68 hb_w68 hg_w68 hn_w68;have q0_w68 := zby (zq BP6.out) hg_w68 (by simp);have q1_w68 := zby (zq BR6.out) hg_w68 (by simp);have q2_w68 := zby (zq HS6.out.blk) hg_w68 (by simp);have n_w68 := Kd.zr4 (Kd.yu HS6.out.nsR) hg_w68 (fun _ _ => by simp);refine hK.out _ _ ⟨(yc q0_w68 0), (yc q2_w68 1)⟩ (fun hHeld => ?_);clear hK K;refine zf8 (a' := ?_) ?_ ?_;rotate_left
      ·
       show Act.put _ (some 68) _ = _;simp only [Act.put, List.setIfInBounds_toArray, List.set_cons_zero, List.set_cons_succ, Yy, Y6];rfl
      refine one_ (i := 3) (N := some 71) #[true, true, true, true, true, true, true, true, false, false, false, false] rfl rfl (by kernel_rfl) (by decide) (fun K hK => ?_);refine Kd.zfh k42 (w0 := w) w.heap.size (by rfl) (.tmp 68) (.tmp 70) 22 42 (.agg #[(.string ⟨#[]⟩), (.int .i64 0), (.int .i64 0)]) 32 rfl Tryz.underlying22 zjj rfl (by decide) (by omega) v68 [] vk _ _ _ (fun _ => True) (fun _ => False) rfl rfl hr_w68 (Kd.Zq HC0.out hb_w68) (fun _ _ h => h) (fun _ h => h.elim) (fun _ _ => trivial) hb_w68 hb_w68.size (by simp; omega) ?_;intro v71 w71 hr_w71 hb_w71 hg_w71 hat_w71;rw [List.nil_append] at hr_w71;obtain ⟨bl2, hbl2, hble2⟩ := hn_w68;have hnQ : ∀ q, q < w6.heap.size → some q ≠ v68.ownBlock := fun q hq e => by rw [hbl2] at e; injection e with e; have : w6.heap.size ≤ bl2 := hble2; omega
      have q0_w71 := zby q0_w68 hg_w71 (hnQ _ (Yp BP6.out));have q1_w71 := zby q1_w68 hg_w71 (hnQ _ (Yp BR6.out));have q2_w71 := zby q2_w68 hg_w71 (hnQ _ (Yp HS6.out.blk));have n_w71 := Kd.zr4 n_w68 hg_w71 (fun k hk => by rw [hk]; exact hnQ _ (Kd.R_lt HS6.out.nsR _ rfl));obtain ⟨Ao, co, rfl⟩ := Kd.Vl hr_w71;have s0 := (yc q1_w71 0).trans (show (#[Value.slice none 0 0, .slice none 0 0] : Array Value)[0]? = some (.slice none 0 0) from rfl);have s1 := (yc q1_w71 1).trans (show (#[Value.slice none 0 0, .slice none 0 0] : Array Value)[1]? = some (.slice none 0 0) from rfl);have f0 := zx q1_w71 0;have f1 := zx q1_w71 1;refine hK.out _ _ ⟨(yc q0_w71 0), (yc q2_w71 1)⟩ (fun hHeld => ?_);clear hK K;refine zf8 (a' := ?_) ?_ ?_;rotate_left
      ·
       show Act.put _ (some 71) _ = _;simp only [Act.put, List.setIfInBounds_toArray, List.set_cons_zero, List.set_cons_succ, Yy, Y6];rfl
      refine zad (i := 8) (N := some 76) (v := ?_) (a' := ?_) #[true, true, true, true, true, true, true, true, true, false, false, false] rfl rfl (by kernel_rfl) (fun _ _ _ h => h) (Or.inl ⟨by rfl, ?_⟩) ?_ ?_;rotate_left
      ·
       intro w';go_simp
       with_reducible rfl
      rotate_left
      ·
       simp only [Act.put, List.setIfInBounds_toArray, List.set_cons_zero, List.set_cons_succ, Yy, Y6];rfl
      refine one_ (i := 9) (N := none) #[true, true, true, true, true, true, true, true, true, true, false, false] rfl rfl (by kernel_rfl) (by decide) (fun K hK => ?_);refine skip_ (w1 := ?_) (by rfl) rfl ?_ ?_;rotate_left
      ·
       go_simp
       rfl
      refine hK.out _ _ ⟨((cell_far (by show w.heap.size ≠ w.heap.size + 1; omega) _).trans ((cell_far (by show w.heap.size ≠ w.heap.size + 1; omega) _).trans (yc q0_w71 0))), ((cell_far (by show gs ≠ w.heap.size + 1; omega) _).trans ((cell_far (by show gs ≠ w.heap.size + 1; omega) _).trans (yc q2_w71 1)))⟩ (fun hHeld => ?_);clear hK K;refine zad (i := 10) (N := some 3) (v := ?_) (a' := ?_) #[true, true, true, true, true, true, true, true, true, true, true, false] rfl rfl (by kernel_rfl) (fun _ _ _ h => h) (Or.inl ⟨by rfl, ?_⟩) ?_ ?_;rotate_left
      ·
       intro w';go_simp
       with_reducible rfl
      rotate_left
      ·
       simp only [Act.put, List.setIfInBounds_toArray, List.set_cons_zero, List.set_cons_succ, Yy, Y6];rfl
      refine zad (i := 11) (N := some 4) (v := ?_) (a' := ?_) #[true, true, true, true, true, true, true, true, true, true, true, true] rfl rfl (by kernel_rfl) (fun _ _ _ h => h) (Or.inl ⟨by rfl, ?_⟩) ?_ ?_;rotate_left
      ·
       intro w';go_simp
       with_reducible rfl
      rotate_left
      ·
       simp only [Act.put, List.setIfInBounds_toArray, List.set_cons_zero, List.set_cons_succ, Yy, Y6];rfl
      refine zps (by kernel_rfl) ?_;go_wp2_with fail
      refine bodyPost_ret (zb6 rfl _ _ (w.heap.size + 1) 25 #[.slice Ao vk.length co, .slice (some ⟨gn, 0, none⟩) vw.length cap] (0, 0) _ rfl (Xz (Xz q1_w71 0 (.slice Ao vk.length co)) 1 (.slice (some ⟨gn, 0, none⟩) vw.length cap)) Tryz.underlying25 rfl (by kernel_rfl)) rfl ?_;exact ⟨_, _, rfl, Kd.Zu (Kd.Zn (p := ⟨w.heap.size + 1, 1, none⟩) (Kd.Zn (p := ⟨w.heap.size + 1, 0, none⟩) (Kd.Zv hr_w71 q1_w71 (by decide)) (fun _ hk => hk.2) _) (fun _ hk => hk.2) _) (fun _ _ => trivial), Kd.Zu (Kd.Zn (p := ⟨w.heap.size + 1, 1, none⟩) (Kd.Zn (p := ⟨w.heap.size + 1, 0, none⟩) n_w71 (fun k hk => by rw [hk]; exact hne1.symm) _) (fun k hk => by rw [hk]; exact hne1.symm) _) (fun _ _ => trivial), (hb_w71.setCell (by show w.heap.size ≤ w.heap.size + 1; omega) _).setCell (by show w.heap.size ≤ w.heap.size + 1; omega) _⟩
     ·
      simp only [if_neg hcode, Option.some.injEq, Prod.mk.injEq] at h;obtain ⟨rfl, rfl, rfl, rfl⟩ := h;have b1 : (code2 != 0) = true := bne_iff_ne.2 hcode;have z3 : w6.cell? ⟨gs, 3, none⟩ = some (.int .i64 at2) := (yc HS6.out.blk 3).trans rfl;have e0 : w6.cell? ⟨w.heap.size + 1, 0, none⟩ = some (.slice none 0 0) := (yc BR6.out 0).trans rfl;have e1 : w6.cell? ⟨w.heap.size + 1, 1, none⟩ = some (.slice none 0 0) := (yc BR6.out 1).trans rfl;have f0 := zx BR6.out 0;have f1 := zx BR6.out 1;clear hcode;go_wp2_with fail
      go_region
      all_goals go_wp2
      all_goals refine bodyPost_ret (zb6 rfl _ _ (w.heap.size + 1) 25 #[.slice none 0 0, .slice none 0 0] (0, 0) _ rfl (zq (Xz (Xz BR6.out 0 (.slice none 0 0)) 1 (.slice none 0 0))) Tryz.underlying25 rfl (by kernel_rfl)) rfl ?_
      all_goals exact ⟨_, _, rfl, Kd.zfg _ _ _ _ _, Kd.zfg _ _ _ _ _, Yw ((HB6.out.setCell (by show w.heap.size ≤ w.heap.size + 1; omega) _).setCell (by show w.heap.size ≤ w.heap.size + 1; omega) _)⟩
  ·
   rw [if_neg hc] at h;cases h
mutual
def yt.j0 : Nat → Int → Int → Bool → List (S42) → List (S44) → Int → Int → Int → Int → Int → ByteArray → ByteArray → ByteArray → ByteArray → Int → Option (Bool)
 | 0, _, _, _, _, _, _, _, _, _, _, _, _, _, _, _ => none
 | k + 1, x2, x14, x26, x254000, x254001, x256000, x256001, x256002, x256003, x256004, x256005, x256006, x256007, x256008, x256009 => if x26 = true then (some true) else (if x14 = 3 then ((yt.f k x254000 x254001 x256001 (wrap64 (x2 + 1))).bind fun t256 => (some t256)) else (if x14 = 5 then ((yt.f k x254000 x254001 x256001 x2).bind fun t257 => (if t257 = true then ((yt.f k x254000 x254001 x256002 (wrap64 (x2 + 1))).bind fun t258 => (some t258)) else (some false))) else (if x14 = 6 then ((yt.f k x254000 x254001 x256001 (wrap64 (x2 + 2))).bind fun t259 => (if t259 = true then ((yt.f k x254000 x254001 x256002 (wrap64 (x2 + 1))).bind fun t260 => (some t260)) else (some false))) else (if x14 = 9 then (if x256004 ≥ 0 then (if x256004 < (x254000.length : Int) then ((yt.f k x254000 x254001 x256001 x2).bind fun t261 => (some t261)) else (some false)) else (some false)) else (if x14 = 10 then (if x256004 ≥ 0 then (if x256004 < (x254000.length : Int) then ((yt.f k x254000 x254001 x256001 x2).bind fun t262 => (if t262 = true then ((yt.f k x254000 x254001 x256002 (wrap64 (x2 + 2))).bind fun t263 => (if t263 = true then ((yt.f k x254000 x254001 x256003 (wrap64 (x2 + 1))).bind fun t264 => (some t264)) else (some false))) else (some false))) else (some false)) else (some false)) else (if x14 = 7 then ((yt.f k x254000 x254001 x256001 x2).bind fun t265 => (if t265 = true then ((yt.f k x254000 x254001 x256002 x2).bind fun t266 => (if t266 = true then ((yt.f k x254000 x254001 x256003 x2).bind fun t267 => (some t267)) else (some false))) else (some false))) else ((yt.f k x254000 x254001 x256001 x2).bind fun t268 => (if t268 = true then ((yt.f k x254000 x254001 x256002 x2).bind fun t269 => (some t269)) else (some false)))))))))
def yt.f : Nat → List (S42) → List (S44) → Int → Int → Option (Bool)
 | 0, _, _, _, _ => none
 | k + 1, vk, vw, a1, a2 => if 0 ≤ a1 then (if a1 < (vw.length : Int) then (if ((zl vw a1).f0) = 0 then (if ((zl vw a1).f4) ≥ 0 then (some (decide (((zl vw a1).f4) < a2))) else (some false)) else (if ((zl vw a1).f0) = 1 then (yt.j0 k a2 ((zl vw a1).f0) (((zl vw a1).f0) == 1) vk vw ((zl vw a1).f0) ((zl vw a1).f1) ((zl vw a1).f2) ((zl vw a1).f3) ((zl vw a1).f4) ((zl vw a1).f5) ((zl vw a1).f6) ((zl vw a1).f7) ((zl vw a1).f8) ((zl vw a1).f9)) else (yt.j0 k a2 ((zl vw a1).f0) (((zl vw a1).f0) == 2) vk vw ((zl vw a1).f0) ((zl vw a1).f1) ((zl vw a1).f2) ((zl vw a1).f3) ((zl vw a1).f4) ((zl vw a1).f5) ((zl vw a1).f6) ((zl vw a1).f7) ((zl vw a1).f8) ((zl vw a1).f9)))) else (none)) else (none)
end
theorem zaa {w W : World} {A0 A1 : Option Addr} {l0 : List S42} {l1 : List S44} {c0 c1 : Nat} {n : Nat} {cs : Array Value} (hB : Below w.heap.size w W) (hp : W.heap[n]? = some (.cells #[.slice A0 l0.length c0, .slice A1 l1.length c1] 25 (0, 0))) (hx : W.heap[n + 1]? = some (.cells cs 44 (0, 0))) {W2 : World} (hb : Below W.heap.size W W2) :
  Below w.heap.size w W2 ∧ W2.heap[n]? = some (.cells #[.slice A0 l0.length c0, .slice A1 l1.length c1] 25 (0, 0)) ∧ W2.heap[n + 1]? = some (.cells cs 44 (0, 0)) := ⟨hB.trans (hb.mono hB.size), zy hp hb, zy hx hb⟩
set_option maxHeartbeats 16000000 in
set_option maxRecDepth 100000 in
theorem yt.calls (k : Nat) : ∀ (Ye : Option Addr) (Yf : Nat) (vk : List (S42)) (Xb : Option Addr) (Yo : Nat) (vw : List (S44)) (a1 : Int) (a2 : Int) (r : Bool) (w : World) (hr0_0 : Kd.C k42 w Ye vk.length vk) (hc0_0 : vk.length ≤ Yf) (hr0_1 : Kd.C k44 w Xb vw.length vw) (hc0_1 : vw.length ≤ Yo) (h : yt.f k vk vw a1 a2 = some r),
  Calls Tryz.prog 31 #[.agg #[.slice Ye vk.length Yf, .slice Xb vw.length Yo], .int .i64 a1, .int .i64 a2] w fun e w' => e = .returned (.bool r) ∧ Below w.heap.size w w' := by
 induction k using Nat.strongRecOn with
 | _ k ih =>
 intro Ye Yf vk Xb Yo vw a1 a2 r w hr0_0 hc0_0 hr0_1 hc0_1 h;rcases k with _ | k
 ·
  exact absurd h (by simp [yt.f])
 rw [yt.f] at h;by_cases ha : 0 ≤ a1;case neg =>
  rw [if_neg ha] at h;cases h
 by_cases hb : a1 < (vw.length : Int);case neg =>
  rw [if_pos ha, if_neg hb] at h;cases h
 rw [if_pos ha, if_pos hb] at h;obtain ⟨ad, rfl, x0, x1, x2, x3, x4, x5, x6, x7, x8, x9⟩ := zbr hr0_1 a1 ha hb;generalize zl vw a1 = x at *;obtain ⟨w1, hw1, hP, hX, hB⟩ : ∃ w1, (w.alloc (.cells #[.slice Ye vk.length Yf, .slice (some ad) vw.length Yo] 25)).alloc (.cells #[.int .i64 x.f0, .int .i64 x.f1, .int .i64 x.f2, .int .i64 x.f3, .int .i64 x.f4, .string x.f5, .string x.f6, .string x.f7, .string x.f8, .int .i64 x.f9] 44) = w1 ∧ w1.heap[w.heap.size]? = some (.cells #[.slice Ye vk.length Yf, .slice (some ad) vw.length Yo] 25 (0, 0)) ∧ w1.heap[w.heap.size + 1]? = some (.cells #[.int .i64 x.f0, .int .i64 x.f1, .int .i64 x.f2, .int .i64 x.f3, .int .i64 x.f4, .string x.f5, .string x.f6, .string x.f7, .string x.f8, .int .i64 x.f9] 44 (0, 0)) ∧ Below w.heap.size w w1 :=
  ⟨_, rfl, zo (Y8 w _) _, zfj (by simp) _, ((Below.refl _ _).alloc (Nat.le_refl _) _).alloc (by simp) _⟩
 replace x0 := ((zh (Below.refl w.heap.size w) (.cells #[.slice Ye vk.length Yf, .slice (some ad) vw.length Yo] 25)).cell (World.block_lt_of_cell? w _ x0)).trans x0;replace x1 := ((zh (Below.refl w.heap.size w) (.cells #[.slice Ye vk.length Yf, .slice (some ad) vw.length Yo] 25)).cell (World.block_lt_of_cell? w _ x1)).trans x1;replace x2 := ((zh (Below.refl w.heap.size w) (.cells #[.slice Ye vk.length Yf, .slice (some ad) vw.length Yo] 25)).cell (World.block_lt_of_cell? w _ x2)).trans x2;replace x3 := ((zh (Below.refl w.heap.size w) (.cells #[.slice Ye vk.length Yf, .slice (some ad) vw.length Yo] 25)).cell (World.block_lt_of_cell? w _ x3)).trans x3;replace x4 := ((zh (Below.refl w.heap.size w) (.cells #[.slice Ye vk.length Yf, .slice (some ad) vw.length Yo] 25)).cell (World.block_lt_of_cell? w _ x4)).trans x4;replace x5 := ((zh (Below.refl w.heap.size w) (.cells #[.slice Ye vk.length Yf, .slice (some ad) vw.length Yo] 25)).cell (World.block_lt_of_cell? w _ x5)).trans x5;replace x6 := ((zh (Below.refl w.heap.size w) (.cells #[.slice Ye vk.length Yf, .slice (some ad) vw.length Yo] 25)).cell (World.block_lt_of_cell? w _ x6)).trans x6;replace x7 := ((zh (Below.refl w.heap.size w) (.cells #[.slice Ye vk.length Yf, .slice (some ad) vw.length Yo] 25)).cell (World.block_lt_of_cell? w _ x7)).trans x7;replace x8 := ((zh (Below.refl w.heap.size w) (.cells #[.slice Ye vk.length Yf, .slice (some ad) vw.length Yo] 25)).cell (World.block_lt_of_cell? w _ x8)).trans x8;replace x9 := ((zh (Below.refl w.heap.size w) (.cells #[.slice Ye vk.length Yf, .slice (some ad) vw.length Yo] 25)).cell (World.block_lt_of_cell? w _ x9)).trans x9;have HW1 := zf.mk hw1;have HP := zf.mk hP;have HX := zf.mk hX;have HB := zf.mk hB;have HC0 := zf.mk hr0_0;have HC1 := zf.mk hr0_1;have HL0 := zf.mk hc0_0;have HL1 := zf.mk hc0_1;have IH := zf.mk ih;have H := zf.mk h;clear hw1 hP hX hB hr0_0 hr0_1 hc0_0 hc0_1 ih h;by_cases n0 : x.f0 = 0
 ·
  have c0 : (x.f0 == 0) = true := beq_iff_eq.2 n0;have h := H.out;rw [if_pos n0] at h;by_cases c : x.f4 ≥ 0
  ·
   rw [if_pos c] at h;obtain rfl := Option.some.inj h;have e0 : decide (x.f4 ≥ 0) = true := decide_eq_true c;clear h c H;clear n0;go_enter Tryz.func31, Tryz.ntmps31;go_wp2_with fail
   go_ret;exact ⟨rfl, by rw [HW1.out]; exact HB.out⟩
  ·
   rw [if_neg c] at h;obtain rfl := Option.some.inj h;have e0 : decide (x.f4 ≥ 0) = false := decide_eq_false c;clear h c H;clear n0;go_enter Tryz.func31, Tryz.ntmps31;go_wp2_with fail
   go_ret;exact ⟨rfl, by rw [HW1.out]; exact HB.out⟩
 by_cases n1 : x.f0 = 1
 ·
  have c1 : (x.f0 == 1) = true := beq_iff_eq.2 n1;have h := H.out;have c0 : (x.f0 == 0) = false := beq_eq_false_iff_ne.2 n0;rw [if_neg n0] at h;rw [if_pos n1] at h;rcases k with _ | k
  ·
   exact absurd h (by simp [yt.j0])
  rw [yt.j0] at h;rw [c1, if_pos rfl] at h;obtain rfl := Option.some.inj h;clear h H;clear n0 n1;go_enter Tryz.func31, Tryz.ntmps31;go_wp2_with fail
  go_ret;exact ⟨rfl, by rw [HW1.out]; exact HB.out⟩
 by_cases n2 : x.f0 = 2
 ·
  have c2 : (x.f0 == 2) = true := beq_iff_eq.2 n2;have h := H.out;have c0 : (x.f0 == 0) = false := beq_eq_false_iff_ne.2 n0;have c1 : (x.f0 == 1) = false := beq_eq_false_iff_ne.2 n1;rw [if_neg n0] at h;rw [if_neg n1] at h;rcases k with _ | k
  ·
   exact absurd h (by simp [yt.j0])
  rw [yt.j0] at h;rw [c2, if_pos rfl] at h;obtain rfl := Option.some.inj h;clear h H;clear n0 n1 n2;go_enter Tryz.func31, Tryz.ntmps31;go_wp2_with fail
  go_ret;exact ⟨rfl, by rw [HW1.out]; exact HB.out⟩
 by_cases n3 : x.f0 = 3
 ·
  have c3 : (x.f0 == 3) = true := beq_iff_eq.2 n3;have h := H.out;have c0 : (x.f0 == 0) = false := beq_eq_false_iff_ne.2 n0;have c1 : (x.f0 == 1) = false := beq_eq_false_iff_ne.2 n1;have c2 : (x.f0 == 2) = false := beq_eq_false_iff_ne.2 n2;rw [if_neg n0] at h;rw [if_neg n1] at h;rcases k with _ | k
  ·
   exact absurd h (by simp [yt.j0])
  rw [yt.j0] at h;rw [c2, if_neg (by decide)] at h;rw [if_pos n3] at h;clear H;clear n0 n1 n2 n3;go_enter Tryz.func31, Tryz.ntmps31;go_wp2_with fail
  rw [HW1.out];clear x0 x1 x2 x3 x4 x5 x6 x7 x8 x9;replace h := Option.bind_eq_some_iff.mp h;obtain ⟨b0, hb0, h⟩ := h;have HD := zf.mk hb0;have HH := zf.mk h;clear hb0 h;refine (IH.out k (by omega) Ye Yf vk (some ad) Yo vw x.f1 (wrap64 (a2 + 1)) b0 _ (Kd.Zq HC0.out HB.out) HL0.out (Kd.Zq HC1.out HB.out) HL1.out HD.out).mono ?_;rintro e w2 ⟨rfl, hw0⟩;obtain ⟨z1, z2, z3⟩ := zaa HB.out HP.out HX.out hw0;clear hw0 HB HP HX HD;have HB := zf.mk z1;have HP := zf.mk z2;have HX := zf.mk z3;have h := HH.out;clear z1 z2 z3 HH;obtain rfl := Option.some.inj h;clear h;go_wp2_with fail
  go_ret;exact ⟨rfl, HB.out⟩
 by_cases n5 : x.f0 = 5
 ·
  have c5 : (x.f0 == 5) = true := beq_iff_eq.2 n5;have h := H.out;have c0 : (x.f0 == 0) = false := beq_eq_false_iff_ne.2 n0;have c1 : (x.f0 == 1) = false := beq_eq_false_iff_ne.2 n1;have c2 : (x.f0 == 2) = false := beq_eq_false_iff_ne.2 n2;have c3 : (x.f0 == 3) = false := beq_eq_false_iff_ne.2 n3;rw [if_neg n0] at h;rw [if_neg n1] at h;rcases k with _ | k
  ·
   exact absurd h (by simp [yt.j0])
  rw [yt.j0] at h;rw [c2, if_neg (by decide)] at h;rw [if_neg n3] at h;rw [if_pos n5] at h;clear H;clear n0 n1 n2 n3 n5;go_enter Tryz.func31, Tryz.ntmps31;go_wp2_with fail
  rw [HW1.out];clear x0 x1 x2 x3 x4 x5 x6 x7 x8 x9;replace h := Option.bind_eq_some_iff.mp h;obtain ⟨b0, hb0, h⟩ := h;have HD := zf.mk hb0;have HH := zf.mk h;clear hb0 h;refine (IH.out k (by omega) Ye Yf vk (some ad) Yo vw x.f1 a2 b0 _ (Kd.Zq HC0.out HB.out) HL0.out (Kd.Zq HC1.out HB.out) HL1.out HD.out).mono ?_;rintro e w2 ⟨rfl, hw0⟩;obtain ⟨z1, z2, z3⟩ := zaa HB.out HP.out HX.out hw0;clear hw0 HB HP HX HD;have HB := zf.mk z1;have HP := zf.mk z2;have HX := zf.mk z3;have h := HH.out;clear z1 z2 z3 HH;cases b0
  ·
   rw [if_neg (by decide)] at h;obtain rfl := Option.some.inj h;clear h;go_wp2_with fail
   go_ret;exact ⟨rfl, HB.out⟩
  rw [if_pos rfl] at h;replace h := Option.bind_eq_some_iff.mp h;obtain ⟨b1, hb1, h⟩ := h;have HD := zf.mk hb1;have HH := zf.mk h;clear hb1 h;have q2 := (yc HX.out 2).trans (show (#[.int .i64 x.f0, .int .i64 x.f1, .int .i64 x.f2, .int .i64 x.f3, .int .i64 x.f4, .string x.f5, .string x.f6, .string x.f7, .string x.f8, .int .i64 x.f9] : Array Value)[2]? = some (.int .i64 x.f2) from rfl);have p0 := (yc HP.out 0).trans (show (#[.slice Ye vk.length Yf, .slice (some ad) vw.length Yo] : Array Value)[0]? = some (.slice Ye vk.length Yf) from rfl);have p1 := (yc HP.out 1).trans (show (#[.slice Ye vk.length Yf, .slice (some ad) vw.length Yo] : Array Value)[1]? = some (.slice (some ad) vw.length Yo) from rfl);go_wp2_with fail
  refine (IH.out k (by omega) Ye Yf vk (some ad) Yo vw x.f2 (wrap64 (a2 + 1)) b1 _ (Kd.Zq HC0.out HB.out) HL0.out (Kd.Zq HC1.out HB.out) HL1.out HD.out).mono ?_;rintro e w3 ⟨rfl, hw1⟩;obtain ⟨z1, z2, z3⟩ := zaa HB.out HP.out HX.out hw1;clear hw1 HB HP HX HD p0 p1 q2;have HB := zf.mk z1;have HP := zf.mk z2;have HX := zf.mk z3;have h := HH.out;clear z1 z2 z3 HH;obtain rfl := Option.some.inj h;clear h;go_wp2_with fail
  go_ret;exact ⟨rfl, HB.out⟩
 by_cases n6 : x.f0 = 6
 ·
  have c6 : (x.f0 == 6) = true := beq_iff_eq.2 n6;have h := H.out;have c0 : (x.f0 == 0) = false := beq_eq_false_iff_ne.2 n0;have c1 : (x.f0 == 1) = false := beq_eq_false_iff_ne.2 n1;have c2 : (x.f0 == 2) = false := beq_eq_false_iff_ne.2 n2;have c3 : (x.f0 == 3) = false := beq_eq_false_iff_ne.2 n3;have c5 : (x.f0 == 5) = false := beq_eq_false_iff_ne.2 n5;rw [if_neg n0] at h;rw [if_neg n1] at h;rcases k with _ | k
  ·
   exact absurd h (by simp [yt.j0])
  rw [yt.j0] at h;rw [c2, if_neg (by decide)] at h;rw [if_neg n3] at h;rw [if_neg n5] at h;rw [if_pos n6] at h;clear H;clear n0 n1 n2 n3 n5 n6;go_enter Tryz.func31, Tryz.ntmps31;go_wp2_with fail
  rw [HW1.out];clear x0 x1 x2 x3 x4 x5 x6 x7 x8 x9;replace h := Option.bind_eq_some_iff.mp h;obtain ⟨b0, hb0, h⟩ := h;have HD := zf.mk hb0;have HH := zf.mk h;clear hb0 h;refine (IH.out k (by omega) Ye Yf vk (some ad) Yo vw x.f1 (wrap64 (a2 + 2)) b0 _ (Kd.Zq HC0.out HB.out) HL0.out (Kd.Zq HC1.out HB.out) HL1.out HD.out).mono ?_;rintro e w2 ⟨rfl, hw0⟩;obtain ⟨z1, z2, z3⟩ := zaa HB.out HP.out HX.out hw0;clear hw0 HB HP HX HD;have HB := zf.mk z1;have HP := zf.mk z2;have HX := zf.mk z3;have h := HH.out;clear z1 z2 z3 HH;cases b0
  ·
   rw [if_neg (by decide)] at h;obtain rfl := Option.some.inj h;clear h;go_wp2_with fail
   go_ret;exact ⟨rfl, HB.out⟩
  rw [if_pos rfl] at h;replace h := Option.bind_eq_some_iff.mp h;obtain ⟨b1, hb1, h⟩ := h;have HD := zf.mk hb1;have HH := zf.mk h;clear hb1 h;have q2 := (yc HX.out 2).trans (show (#[.int .i64 x.f0, .int .i64 x.f1, .int .i64 x.f2, .int .i64 x.f3, .int .i64 x.f4, .string x.f5, .string x.f6, .string x.f7, .string x.f8, .int .i64 x.f9] : Array Value)[2]? = some (.int .i64 x.f2) from rfl);have p0 := (yc HP.out 0).trans (show (#[.slice Ye vk.length Yf, .slice (some ad) vw.length Yo] : Array Value)[0]? = some (.slice Ye vk.length Yf) from rfl);have p1 := (yc HP.out 1).trans (show (#[.slice Ye vk.length Yf, .slice (some ad) vw.length Yo] : Array Value)[1]? = some (.slice (some ad) vw.length Yo) from rfl);go_wp2_with fail
  refine (IH.out k (by omega) Ye Yf vk (some ad) Yo vw x.f2 (wrap64 (a2 + 1)) b1 _ (Kd.Zq HC0.out HB.out) HL0.out (Kd.Zq HC1.out HB.out) HL1.out HD.out).mono ?_;rintro e w3 ⟨rfl, hw1⟩;obtain ⟨z1, z2, z3⟩ := zaa HB.out HP.out HX.out hw1;clear hw1 HB HP HX HD p0 p1 q2;have HB := zf.mk z1;have HP := zf.mk z2;have HX := zf.mk z3;have h := HH.out;clear z1 z2 z3 HH;obtain rfl := Option.some.inj h;clear h;go_wp2_with fail
  go_ret;exact ⟨rfl, HB.out⟩
 by_cases n9 : x.f0 = 9
 ·
  have c9 : (x.f0 == 9) = true := beq_iff_eq.2 n9;have h := H.out;have c0 : (x.f0 == 0) = false := beq_eq_false_iff_ne.2 n0;have c1 : (x.f0 == 1) = false := beq_eq_false_iff_ne.2 n1;have c2 : (x.f0 == 2) = false := beq_eq_false_iff_ne.2 n2;have c3 : (x.f0 == 3) = false := beq_eq_false_iff_ne.2 n3;have c5 : (x.f0 == 5) = false := beq_eq_false_iff_ne.2 n5;have c6 : (x.f0 == 6) = false := beq_eq_false_iff_ne.2 n6;rw [if_neg n0] at h;rw [if_neg n1] at h;rcases k with _ | k
  ·
   exact absurd h (by simp [yt.j0])
  rw [yt.j0] at h;rw [c2, if_neg (by decide)] at h;rw [if_neg n3] at h;rw [if_neg n5] at h;rw [if_neg n6] at h;rw [if_pos n9] at h;clear H;by_cases c0' : x.f4 ≥ 0;case neg =>
   rw [if_neg c0'] at h;obtain rfl := Option.some.inj h;have e1 : decide (x.f4 ≥ 0) = false := decide_eq_false c0';clear h;clear n0 n1 n2 n3 n5 n6 n9;go_enter Tryz.func31, Tryz.ntmps31;go_wp2_with fail
   go_ret;exact ⟨rfl, by rw [HW1.out]; exact HB.out⟩
  rw [if_pos c0'] at h;have e1 : decide (x.f4 ≥ 0) = true := decide_eq_true c0';by_cases c0'' : x.f4 < (vk.length : Int);case neg =>
   rw [if_neg c0''] at h;obtain rfl := Option.some.inj h;have e1 : decide (x.f4 < (vk.length : Int)) = false := decide_eq_false c0'';clear h;clear n0 n1 n2 n3 n5 n6 n9;go_enter Tryz.func31, Tryz.ntmps31;go_wp2_with fail
   go_ret;exact ⟨rfl, by rw [HW1.out]; exact HB.out⟩
  rw [if_pos c0''] at h;have e2 : decide (x.f4 < (vk.length : Int)) = true := decide_eq_true c0'';clear n0 n1 n2 n3 n5 n6 n9;go_enter Tryz.func31, Tryz.ntmps31;go_wp2_with fail
  rw [HW1.out];clear x0 x1 x2 x3 x4 x5 x6 x7 x8 x9;replace h := Option.bind_eq_some_iff.mp h;obtain ⟨b0, hb0, h⟩ := h;have HD := zf.mk hb0;have HH := zf.mk h;clear hb0 h;refine (IH.out k (by omega) Ye Yf vk (some ad) Yo vw x.f1 a2 b0 _ (Kd.Zq HC0.out HB.out) HL0.out (Kd.Zq HC1.out HB.out) HL1.out HD.out).mono ?_;rintro e w2 ⟨rfl, hw0⟩;obtain ⟨z1, z2, z3⟩ := zaa HB.out HP.out HX.out hw0;clear hw0 HB HP HX HD;have HB := zf.mk z1;have HP := zf.mk z2;have HX := zf.mk z3;have h := HH.out;clear z1 z2 z3 HH;obtain rfl := Option.some.inj h;clear h;go_wp2_with fail
  go_ret;exact ⟨rfl, HB.out⟩
 by_cases n10 : x.f0 = 10
 ·
  have c10 : (x.f0 == 10) = true := beq_iff_eq.2 n10;have h := H.out;have c0 : (x.f0 == 0) = false := beq_eq_false_iff_ne.2 n0;have c1 : (x.f0 == 1) = false := beq_eq_false_iff_ne.2 n1;have c2 : (x.f0 == 2) = false := beq_eq_false_iff_ne.2 n2;have c3 : (x.f0 == 3) = false := beq_eq_false_iff_ne.2 n3;have c5 : (x.f0 == 5) = false := beq_eq_false_iff_ne.2 n5;have c6 : (x.f0 == 6) = false := beq_eq_false_iff_ne.2 n6;have c9 : (x.f0 == 9) = false := beq_eq_false_iff_ne.2 n9;rw [if_neg n0] at h;rw [if_neg n1] at h;rcases k with _ | k
  ·
   exact absurd h (by simp [yt.j0])
  rw [yt.j0] at h;rw [c2, if_neg (by decide)] at h;rw [if_neg n3] at h;rw [if_neg n5] at h;rw [if_neg n6] at h;rw [if_neg n9] at h;rw [if_pos n10] at h;clear H;by_cases c0' : x.f4 ≥ 0;case neg =>
   rw [if_neg c0'] at h;obtain rfl := Option.some.inj h;have e1 : decide (x.f4 ≥ 0) = false := decide_eq_false c0';clear h;clear n0 n1 n2 n3 n5 n6 n9 n10;go_enter Tryz.func31, Tryz.ntmps31;go_wp2_with fail
   go_ret;exact ⟨rfl, by rw [HW1.out]; exact HB.out⟩
  rw [if_pos c0'] at h;have e1 : decide (x.f4 ≥ 0) = true := decide_eq_true c0';by_cases c0'' : x.f4 < (vk.length : Int);case neg =>
   rw [if_neg c0''] at h;obtain rfl := Option.some.inj h;have e1 : decide (x.f4 < (vk.length : Int)) = false := decide_eq_false c0'';clear h;clear n0 n1 n2 n3 n5 n6 n9 n10;go_enter Tryz.func31, Tryz.ntmps31;go_wp2_with fail
   go_ret;exact ⟨rfl, by rw [HW1.out]; exact HB.out⟩
  rw [if_pos c0''] at h;have e2 : decide (x.f4 < (vk.length : Int)) = true := decide_eq_true c0'';clear n0 n1 n2 n3 n5 n6 n9 n10;go_enter Tryz.func31, Tryz.ntmps31;go_wp2_with fail
  rw [HW1.out];clear x0 x1 x2 x3 x4 x5 x6 x7 x8 x9;replace h := Option.bind_eq_some_iff.mp h;obtain ⟨b0, hb0, h⟩ := h;have HD := zf.mk hb0;have HH := zf.mk h;clear hb0 h;refine (IH.out k (by omega) Ye Yf vk (some ad) Yo vw x.f1 a2 b0 _ (Kd.Zq HC0.out HB.out) HL0.out (Kd.Zq HC1.out HB.out) HL1.out HD.out).mono ?_;rintro e w2 ⟨rfl, hw0⟩;obtain ⟨z1, z2, z3⟩ := zaa HB.out HP.out HX.out hw0;clear hw0 HB HP HX HD;have HB := zf.mk z1;have HP := zf.mk z2;have HX := zf.mk z3;have h := HH.out;clear z1 z2 z3 HH;cases b0
  ·
   rw [if_neg (by decide)] at h;obtain rfl := Option.some.inj h;clear h;go_wp2_with fail
   go_ret;exact ⟨rfl, HB.out⟩
  rw [if_pos rfl] at h;replace h := Option.bind_eq_some_iff.mp h;obtain ⟨b1, hb1, h⟩ := h;have HD := zf.mk hb1;have HH := zf.mk h;clear hb1 h;have q2 := (yc HX.out 2).trans (show (#[.int .i64 x.f0, .int .i64 x.f1, .int .i64 x.f2, .int .i64 x.f3, .int .i64 x.f4, .string x.f5, .string x.f6, .string x.f7, .string x.f8, .int .i64 x.f9] : Array Value)[2]? = some (.int .i64 x.f2) from rfl);have p0 := (yc HP.out 0).trans (show (#[.slice Ye vk.length Yf, .slice (some ad) vw.length Yo] : Array Value)[0]? = some (.slice Ye vk.length Yf) from rfl);have p1 := (yc HP.out 1).trans (show (#[.slice Ye vk.length Yf, .slice (some ad) vw.length Yo] : Array Value)[1]? = some (.slice (some ad) vw.length Yo) from rfl);go_wp2_with fail
  refine (IH.out k (by omega) Ye Yf vk (some ad) Yo vw x.f2 (wrap64 (a2 + 2)) b1 _ (Kd.Zq HC0.out HB.out) HL0.out (Kd.Zq HC1.out HB.out) HL1.out HD.out).mono ?_;rintro e w3 ⟨rfl, hw1⟩;obtain ⟨z1, z2, z3⟩ := zaa HB.out HP.out HX.out hw1;clear hw1 HB HP HX HD p0 p1 q2;have HB := zf.mk z1;have HP := zf.mk z2;have HX := zf.mk z3;have h := HH.out;clear z1 z2 z3 HH;cases b1
  ·
   rw [if_neg (by decide)] at h;obtain rfl := Option.some.inj h;clear h;go_wp2_with fail
   go_ret;exact ⟨rfl, HB.out⟩
  rw [if_pos rfl] at h;replace h := Option.bind_eq_some_iff.mp h;obtain ⟨b2, hb2, h⟩ := h;have HD := zf.mk hb2;have HH := zf.mk h;clear hb2 h;have q3 := (yc HX.out 3).trans (show (#[.int .i64 x.f0, .int .i64 x.f1, .int .i64 x.f2, .int .i64 x.f3, .int .i64 x.f4, .string x.f5, .string x.f6, .string x.f7, .string x.f8, .int .i64 x.f9] : Array Value)[3]? = some (.int .i64 x.f3) from rfl);have p0 := (yc HP.out 0).trans (show (#[.slice Ye vk.length Yf, .slice (some ad) vw.length Yo] : Array Value)[0]? = some (.slice Ye vk.length Yf) from rfl);have p1 := (yc HP.out 1).trans (show (#[.slice Ye vk.length Yf, .slice (some ad) vw.length Yo] : Array Value)[1]? = some (.slice (some ad) vw.length Yo) from rfl);go_wp2_with fail
  refine (IH.out k (by omega) Ye Yf vk (some ad) Yo vw x.f3 (wrap64 (a2 + 1)) b2 _ (Kd.Zq HC0.out HB.out) HL0.out (Kd.Zq HC1.out HB.out) HL1.out HD.out).mono ?_;rintro e w4 ⟨rfl, hw2⟩;obtain ⟨z1, z2, z3⟩ := zaa HB.out HP.out HX.out hw2;clear hw2 HB HP HX HD p0 p1 q3;have HB := zf.mk z1;have HP := zf.mk z2;have HX := zf.mk z3;have h := HH.out;clear z1 z2 z3 HH;obtain rfl := Option.some.inj h;clear h;go_wp2_with fail
  go_ret;exact ⟨rfl, HB.out⟩
 by_cases n7 : x.f0 = 7
 ·
  have c7 : (x.f0 == 7) = true := beq_iff_eq.2 n7;have h := H.out;have c0 : (x.f0 == 0) = false := beq_eq_false_iff_ne.2 n0;have c1 : (x.f0 == 1) = false := beq_eq_false_iff_ne.2 n1;have c2 : (x.f0 == 2) = false := beq_eq_false_iff_ne.2 n2;have c3 : (x.f0 == 3) = false := beq_eq_false_iff_ne.2 n3;have c5 : (x.f0 == 5) = false := beq_eq_false_iff_ne.2 n5;have c6 : (x.f0 == 6) = false := beq_eq_false_iff_ne.2 n6;have c9 : (x.f0 == 9) = false := beq_eq_false_iff_ne.2 n9;have c10 : (x.f0 == 10) = false := beq_eq_false_iff_ne.2 n10;rw [if_neg n0] at h;rw [if_neg n1] at h;rcases k with _ | k
  ·
   exact absurd h (by simp [yt.j0])
  rw [yt.j0] at h;rw [c2, if_neg (by decide)] at h;rw [if_neg n3] at h;rw [if_neg n5] at h;rw [if_neg n6] at h;rw [if_neg n9] at h;rw [if_neg n10] at h;rw [if_pos n7] at h;clear H;clear n0 n1 n2 n3 n5 n6 n9 n10 n7;go_enter Tryz.func31, Tryz.ntmps31;go_wp2_with fail
  rw [HW1.out];clear x0 x1 x2 x3 x4 x5 x6 x7 x8 x9;replace h := Option.bind_eq_some_iff.mp h;obtain ⟨b0, hb0, h⟩ := h;have HD := zf.mk hb0;have HH := zf.mk h;clear hb0 h;refine (IH.out k (by omega) Ye Yf vk (some ad) Yo vw x.f1 a2 b0 _ (Kd.Zq HC0.out HB.out) HL0.out (Kd.Zq HC1.out HB.out) HL1.out HD.out).mono ?_;rintro e w2 ⟨rfl, hw0⟩;obtain ⟨z1, z2, z3⟩ := zaa HB.out HP.out HX.out hw0;clear hw0 HB HP HX HD;have HB := zf.mk z1;have HP := zf.mk z2;have HX := zf.mk z3;have h := HH.out;clear z1 z2 z3 HH;cases b0
  ·
   rw [if_neg (by decide)] at h;obtain rfl := Option.some.inj h;clear h;go_wp2_with fail
   go_ret;exact ⟨rfl, HB.out⟩
  rw [if_pos rfl] at h;replace h := Option.bind_eq_some_iff.mp h;obtain ⟨b1, hb1, h⟩ := h;have HD := zf.mk hb1;have HH := zf.mk h;clear hb1 h;have q2 := (yc HX.out 2).trans (show (#[.int .i64 x.f0, .int .i64 x.f1, .int .i64 x.f2, .int .i64 x.f3, .int .i64 x.f4, .string x.f5, .string x.f6, .string x.f7, .string x.f8, .int .i64 x.f9] : Array Value)[2]? = some (.int .i64 x.f2) from rfl);have p0 := (yc HP.out 0).trans (show (#[.slice Ye vk.length Yf, .slice (some ad) vw.length Yo] : Array Value)[0]? = some (.slice Ye vk.length Yf) from rfl);have p1 := (yc HP.out 1).trans (show (#[.slice Ye vk.length Yf, .slice (some ad) vw.length Yo] : Array Value)[1]? = some (.slice (some ad) vw.length Yo) from rfl);go_wp2_with fail
  refine (IH.out k (by omega) Ye Yf vk (some ad) Yo vw x.f2 a2 b1 _ (Kd.Zq HC0.out HB.out) HL0.out (Kd.Zq HC1.out HB.out) HL1.out HD.out).mono ?_;rintro e w3 ⟨rfl, hw1⟩;obtain ⟨z1, z2, z3⟩ := zaa HB.out HP.out HX.out hw1;clear hw1 HB HP HX HD p0 p1 q2;have HB := zf.mk z1;have HP := zf.mk z2;have HX := zf.mk z3;have h := HH.out;clear z1 z2 z3 HH;cases b1
  ·
   rw [if_neg (by decide)] at h;obtain rfl := Option.some.inj h;clear h;go_wp2_with fail
   go_ret;exact ⟨rfl, HB.out⟩
  rw [if_pos rfl] at h;replace h := Option.bind_eq_some_iff.mp h;obtain ⟨b2, hb2, h⟩ := h;have HD := zf.mk hb2;have HH := zf.mk h;clear hb2 h;have q3 := (yc HX.out 3).trans (show (#[.int .i64 x.f0, .int .i64 x.f1, .int .i64 x.f2, .int .i64 x.f3, .int .i64 x.f4, .string x.f5, .string x.f6, .string x.f7, .string x.f8, .int .i64 x.f9] : Array Value)[3]? = some (.int .i64 x.f3) from rfl);have p0 := (yc HP.out 0).trans (show (#[.slice Ye vk.length Yf, .slice (some ad) vw.length Yo] : Array Value)[0]? = some (.slice Ye vk.length Yf) from rfl);have p1 := (yc HP.out 1).trans (show (#[.slice Ye vk.length Yf, .slice (some ad) vw.length Yo] : Array Value)[1]? = some (.slice (some ad) vw.length Yo) from rfl);go_wp2_with fail
  refine (IH.out k (by omega) Ye Yf vk (some ad) Yo vw x.f3 a2 b2 _ (Kd.Zq HC0.out HB.out) HL0.out (Kd.Zq HC1.out HB.out) HL1.out HD.out).mono ?_;rintro e w4 ⟨rfl, hw2⟩;obtain ⟨z1, z2, z3⟩ := zaa HB.out HP.out HX.out hw2;clear hw2 HB HP HX HD p0 p1 q3;have HB := zf.mk z1;have HP := zf.mk z2;have HX := zf.mk z3;have h := HH.out;clear z1 z2 z3 HH;obtain rfl := Option.some.inj h;clear h;go_wp2_with fail
  go_ret;exact ⟨rfl, HB.out⟩
 have h := H.out;have c0 : (x.f0 == 0) = false := beq_eq_false_iff_ne.2 n0;have c1 : (x.f0 == 1) = false := beq_eq_false_iff_ne.2 n1;have c2 : (x.f0 == 2) = false := beq_eq_false_iff_ne.2 n2;have c3 : (x.f0 == 3) = false := beq_eq_false_iff_ne.2 n3;have c5 : (x.f0 == 5) = false := beq_eq_false_iff_ne.2 n5;have c6 : (x.f0 == 6) = false := beq_eq_false_iff_ne.2 n6;have c9 : (x.f0 == 9) = false := beq_eq_false_iff_ne.2 n9;have c10 : (x.f0 == 10) = false := beq_eq_false_iff_ne.2 n10;have c7 : (x.f0 == 7) = false := beq_eq_false_iff_ne.2 n7;rw [if_neg n0] at h;rw [if_neg n1] at h;rcases k with _ | k
 ·
  exact absurd h (by simp [yt.j0])
 rw [yt.j0] at h;rw [c2, if_neg (by decide)] at h;rw [if_neg n3] at h;rw [if_neg n5] at h;rw [if_neg n6] at h;rw [if_neg n9] at h;rw [if_neg n10] at h;rw [if_neg n7] at h;clear H;clear n0 n1 n2 n3 n5 n6 n9 n10 n7;go_enter Tryz.func31, Tryz.ntmps31;go_wp2_with fail
 rw [HW1.out];clear x0 x1 x2 x3 x4 x5 x6 x7 x8 x9;replace h := Option.bind_eq_some_iff.mp h;obtain ⟨b0, hb0, h⟩ := h;have HD := zf.mk hb0;have HH := zf.mk h;clear hb0 h;refine (IH.out k (by omega) Ye Yf vk (some ad) Yo vw x.f1 a2 b0 _ (Kd.Zq HC0.out HB.out) HL0.out (Kd.Zq HC1.out HB.out) HL1.out HD.out).mono ?_;rintro e w2 ⟨rfl, hw0⟩;obtain ⟨z1, z2, z3⟩ := zaa HB.out HP.out HX.out hw0;clear hw0 HB HP HX HD;have HB := zf.mk z1;have HP := zf.mk z2;have HX := zf.mk z3;have h := HH.out;clear z1 z2 z3 HH;cases b0
 ·
  rw [if_neg (by decide)] at h;obtain rfl := Option.some.inj h;clear h;go_wp2_with fail
  go_ret;exact ⟨rfl, HB.out⟩
 rw [if_pos rfl] at h;replace h := Option.bind_eq_some_iff.mp h;obtain ⟨b1, hb1, h⟩ := h;have HD := zf.mk hb1;have HH := zf.mk h;clear hb1 h;have q2 := (yc HX.out 2).trans (show (#[.int .i64 x.f0, .int .i64 x.f1, .int .i64 x.f2, .int .i64 x.f3, .int .i64 x.f4, .string x.f5, .string x.f6, .string x.f7, .string x.f8, .int .i64 x.f9] : Array Value)[2]? = some (.int .i64 x.f2) from rfl);have p0 := (yc HP.out 0).trans (show (#[.slice Ye vk.length Yf, .slice (some ad) vw.length Yo] : Array Value)[0]? = some (.slice Ye vk.length Yf) from rfl);have p1 := (yc HP.out 1).trans (show (#[.slice Ye vk.length Yf, .slice (some ad) vw.length Yo] : Array Value)[1]? = some (.slice (some ad) vw.length Yo) from rfl);go_wp2_with fail
 refine (IH.out k (by omega) Ye Yf vk (some ad) Yo vw x.f2 a2 b1 _ (Kd.Zq HC0.out HB.out) HL0.out (Kd.Zq HC1.out HB.out) HL1.out HD.out).mono ?_;rintro e w3 ⟨rfl, hw1⟩;obtain ⟨z1, z2, z3⟩ := zaa HB.out HP.out HX.out hw1;clear hw1 HB HP HX HD p0 p1 q2;have HB := zf.mk z1;have HP := zf.mk z2;have HX := zf.mk z3;have h := HH.out;clear z1 z2 z3 HH;obtain rfl := Option.some.inj h;clear h;go_wp2_with fail
 go_ret;exact ⟨rfl, HB.out⟩
end Go.Proofs.YtfcjpkkglffnmaaGreatDoor.H
