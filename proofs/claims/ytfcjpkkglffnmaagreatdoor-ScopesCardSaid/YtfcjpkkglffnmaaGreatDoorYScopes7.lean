/- Several texts in one: contracts of functions of the program, and what they lean on. In part written by a program of this session over the kit's print, in part by hand. -/
import Derived.Test.YtfcjpkkglffnmaaGreatDoorYScopes2
import Derived.Test.YtfcjpkkglffnmaaGreatDoorYScopes6
namespace Go.Proofs.YtfcjpkkglffnmaaGreatDoor.H
open Go.RowKit Go.Proofs.YtfcjpkkglffnmaaGreatDoorW.PrintWords Go.Proofs.YtfcjpkkglffnmaaGreatDoorW.PrintLast Go.Proofs.YtfcjpkkglffnmaaGreatDoorW.PrintMore
attribute [local go_sem] Vz V3 za0 za1 Vd Ve V4 V5
set_option linter.unusedVariables false
set_option linter.unusedSimpArgs false
mutual
def Zr.j0 : Nat → ByteArray → Bool → Option (Bool)
 | 0, _, _ => none
 | k + 1, x0, x11 => if x11 = true then (some false) else (Zr.l0 k x0 1)
def Zr.l0 : Nat → ByteArray → Int → Option (Bool)
 | 0, _, _ => none
 | k + 1, x0, x3 => if x3 < (x0.size : Int) then (if 0 ≤ x3 then ((zar.f (bt x0 x3)).bind fun t197 => (if t197 = true then (Zr.l0 k x0 (wrap64 (x3 + 1))) else (some false))) else (none)) else (some true)
end
def Zr.f (k : Nat) (a0 : ByteArray) : Option (Bool) := if a0.toList = ([] : List UInt8) then (Zr.j0 k a0 true) else (if 0 < (a0.size : Int) then ((Xp.f (bt a0 0)).bind fun t196 => (Zr.j0 k a0 (!t196))) else (none))
set_option maxHeartbeats 8000000 in
set_option maxRecDepth 100000 in
theorem Zr.calls (k : Nat) (a0 : ByteArray) (r : Bool) (w : World) (h : Zr.f k a0 = some r) :
  Calls Tryz.prog 75 #[.string a0] w fun e w' => e = .returned (.bool r) ∧ xm w w' := by
 have H : (if a0.toList = ([] : List UInt8) then (Zr.j0 k a0 true) else (if 0 < (a0.size : Int) then ((Xp.f (bt a0 0)).bind fun t196 => (Zr.j0 k a0 (!t196))) else (none))) = some r := h;clear h;have HC2 := zf.mk H;clear H;go_enter Tryz.func75, Tryz.ntmps75;go_upto_region 1 with (fail)
 go_cut [11] (fun v11 wc => ∃ (kq : Nat) (x11_1 : Bool), v11 = .bool x11_1 ∧ zf (Zr.j0 kq a0 x11_1 = some r) ∧ zf (kq ≤ k) ∧ xm w wc)
 case first =>
  have H := HC2.out;clear HC2;by_cases c3 : a0.toList = ([] : List UInt8)
  ·
   rw [if_pos c3] at H;have zbm : (a0.toList == ([] : List UInt8)) = true := beq_iff_eq.mpr c3;have zga : (a0.toList != ([] : List UInt8)) = false := bne_eq_false_iff_eq.mpr c3;clear c3
   (first | rw [zbm] | (simp only [Yy, Y6]; rw [zbm]) | skip)
   have H' := zf.mk H;clear H;go_wp2
   go_meet
   case rel => exact ⟨_, (true), (by first | rfl | (simp; done) | (simp [*]; done)), H', ⟨by first | omega | exact Nat.le_refl _⟩, by repeat (first | exact xm.refl _ | apply xm.step)⟩
  ·
   rw [if_neg c3] at H;have zbm : (a0.toList == ([] : List UInt8)) = false := beq_eq_false_iff_ne.mpr c3;have zga : (a0.toList != ([] : List UInt8)) = true := bne_iff_ne.mpr c3
   (first | rw [zbm] | (simp only [Yy, Y6]; rw [zbm]) | skip)
   by_cases c4 : 0 < (a0.size : Int)
   ·
    rw [if_pos c4] at H;have zbn : decide (0 < (a0.size : Int)) = true := decide_eq_true c4;have ze8 : decide (0 < a0.size) = true := decide_eq_true (by omega);clear c4;replace H := Option.bind_eq_some_iff.mp H;obtain ⟨t196, A60, H⟩ := H;replace H : (Zr.j0 k a0 (!t196)) = some r := H;have A6 := zf.mk A60;clear A60;have H' := zf.mk H;clear H;have p5 : 0 ≤ (0 : Int) := (by omega);have q5 : 0 < a0.size := (by have : (0 : Int) < (a0.size : Int) := of_decide_eq_true (by first | (with_reducible assumption) | assumption); omega);have hx5 : ∀ h : 0 < a0.size, ((a0[0]'h).toNat : Int) = bt a0 0 := zkh a0 0;clear p5;have qi5 : (0 < (a0.size : Int)) = True := eq_true (of_decide_eq_true (by first | (with_reducible assumption) | assumption));replace q5 := eq_true q5;go_wp2_with (first | (go_at_call 85; (with_reducible refine (Xp.calls (bt a0 0) t196 _ A6.out).mono ?_); rintro e w' ⟨rfl, ⟨nd, rfl⟩⟩))
    go_meet
    case rel => exact ⟨_, (!t196), (by first | rfl | (simp; done) | (simp [*]; done)), H', ⟨by first | omega | exact Nat.le_refl _⟩, by repeat (first | exact xm.refl _ | apply xm.step)⟩
   ·
    rw [if_neg c4] at H;exact absurd H (by simp)
 case rest =>
  clear HC2;try clear p2
  try clear c3
  try clear zbm
  try clear zga
  try clear c4
  try clear zbn
  try clear ze8
  try clear p5
  try clear q5
  try clear hx5
  try clear qi5
  try clear p5
  try clear q5
  obtain ⟨kq, x11_1, rfl, HA, HJ1, ⟨mc1, rfl⟩⟩ := hcut;cases kq with
  | zero => exact absurd HA.out (by simp [Zr.j0])
  | succ kj1 =>
   have H := HA.out;clear HA;simp only [Zr.j0] at H;by_cases c7 : x11_1 = true
   ·
    subst c7;have H1 : (some false) = some r := by rw [if_pos rfl] at H; exact H
    clear H;have H := H1;clear H1;obtain rfl := Option.some.inj H;go_wp2
    go_ret;exact ⟨by first | rfl | (simp; done) | (simp [*]; done), by repeat (first | exact xm.refl _ | apply xm.step)⟩
   ·
    replace c7 := Bool.eq_false_iff.mpr c7;subst c7;have H1 : (Zr.l0 kj1 a0 1) = some r := by rw [if_neg (show ¬ (false = true) by decide)] at H; exact H
    clear H;have H := H1;clear H1;have H' := zf.mk H;clear H;go_wp2
    go_loopg [3] kj1 (fun kq v3 w' => ∃ (x3_2 : Int), v3 = .int .i64 x3_2 ∧ zf (Zr.l0 kq a0 x3_2 = some r) ∧ zf (kq ≤ kj1) ∧ xm w w')
    case atStart => exact ⟨(1), (by first | rfl | (simp; done) | (simp [*]; done)), H', ⟨Nat.le_refl _⟩, by repeat (first | exact xm.refl _ | apply xm.step)⟩
    case round =>
     clear H';try clear c1
     try clear p2
     try clear c3
     try clear zbm
     try clear zga
     try clear c4
     try clear zbn
     try clear ze8
     try clear p5
     try clear q5
     try clear hx5
     try clear qi5
     try clear c7
     try clear p2
     try clear p5
     try clear q5
     obtain ⟨x3_2, rfl, HA, HK2, ⟨m2, rfl⟩⟩ := hrel;cases gk with
     | zero => exact absurd HA.out (by simp [Zr.l0])
     | succ k2 =>
      have H := HA.out;clear HA;simp only [Zr.l0] at H;by_cases c8 : x3_2 < (a0.size : Int)
      ·
       rw [if_pos c8] at H;have zjl : decide (x3_2 < (a0.size : Int)) = true := decide_eq_true c8;clear c8;by_cases c9 : 0 ≤ x3_2
       ·
        rw [if_pos c9] at H;have c9b0 : decide (0 ≤ x3_2) = true := decide_eq_true c9;clear c9;replace H := Option.bind_eq_some_iff.mp H;obtain ⟨t197, A110, H⟩ := H;replace H : (if t197 = true then (Zr.l0 k2 a0 (wrap64 (x3_2 + 1))) else (some false)) = some r := H;have A11 := zf.mk A110;clear A110;by_cases c12 : t197 = true
        ·
         subst c12;have H1 : (Zr.l0 k2 a0 (wrap64 (x3_2 + 1))) = some r := by rw [if_pos rfl] at H; exact H
         clear H;have H := H1;clear H1;have H' := zf.mk H;clear H;have p10 : 0 ≤ (x3_2 : Int) := of_decide_eq_true (by first | (with_reducible assumption) | assumption);have q10 : x3_2 < (a0.size : Int) := of_decide_eq_true (by first | (with_reducible assumption) | assumption);have hx10 := zkh a0 x3_2;replace p10 := eq_true p10;replace q10 := eq_true q10;go_wp2_with (first | ((with_reducible refine Zw (f := 86) rfl ?_); refine Xc (some 21) rfl rfl Tryz.func86 (by kernel_rfl) rfl #[.int .u8 (bt a0 x3_2)] rfl (by (try simp only [List.map_toArray, List.map_cons, List.map_nil]); first | done | rfl | (simp only [List.length_drop, List.length_take]; rfl)) ?_; (with_reducible refine (zar.calls (bt a0 x3_2) true _ A11.out).mono ?_); rintro e w' ⟨rfl, ⟨nd, rfl⟩⟩; refine ⟨_, rfl, ?_⟩))
         go_roundg k2
         case measure => have := HJ1.out; have := HK2.out; omega
         case rel => exact ⟨(wrap64 (x3_2 + 1)), (by first | rfl | (simp; done) | (simp [*]; done)), H', ⟨by have := HJ1.out; have := HK2.out; omega⟩, by repeat (first | exact xm.refl _ | apply xm.step)⟩
        ·
         replace c12 := Bool.eq_false_iff.mpr c12;subst c12;have H1 : (some false) = some r := by rw [if_neg (show ¬ (false = true) by decide)] at H; exact H
         clear H;have H := H1;clear H1;obtain rfl := Option.some.inj H;have p10 : 0 ≤ (x3_2 : Int) := of_decide_eq_true (by first | (with_reducible assumption) | assumption);have q10 : x3_2 < (a0.size : Int) := of_decide_eq_true (by first | (with_reducible assumption) | assumption);have hx10 := zkh a0 x3_2;replace p10 := eq_true p10;replace q10 := eq_true q10;go_wp2_with (first | ((with_reducible refine Zw (f := 86) rfl ?_); refine Xc (some 21) rfl rfl Tryz.func86 (by kernel_rfl) rfl #[.int .u8 (bt a0 x3_2)] rfl (by (try simp only [List.map_toArray, List.map_cons, List.map_nil]); first | done | rfl | (simp only [List.length_drop, List.length_take]; rfl)) ?_; (with_reducible refine (zar.calls (bt a0 x3_2) false _ A11.out).mono ?_); rintro e w' ⟨rfl, ⟨nd, rfl⟩⟩; refine ⟨_, rfl, ?_⟩))
         go_ret;exact ⟨by first | rfl | (simp; done) | (simp [*]; done), by repeat (first | exact xm.refl _ | apply xm.step)⟩
       ·
        rw [if_neg c9] at H;exact absurd H (by simp)
      ·
       rw [if_neg c8] at H;have zjl : decide (x3_2 < (a0.size : Int)) = false := decide_eq_false c8;clear c8;obtain rfl := Option.some.inj H;go_wp2
       go_ret;exact ⟨by first | rfl | (simp; done) | (simp [*]; done), by repeat (first | exact xm.refl _ | apply xm.step)⟩
open Go.RowKit Go.Proofs.YtfcjpkkglffnmaaGreatDoorW.PrintWords Go.Proofs.YtfcjpkkglffnmaaGreatDoorW.PrintLast Go.Proofs.YtfcjpkkglffnmaaGreatDoorW.PrintMore
attribute [local go_sem] Vz V3 za0 za1 Vd Ve V4 V5
set_option linter.unusedVariables false
set_option linter.unusedSimpArgs false
def Yl.l0 : Nat → ByteArray → Int → Option (Bool)
 | 0, _, _ => none
 | k + 1, x3, x4 => if (wrap64 (x4 + (x3.size : Int))) ≤ 78 then (if 0 ≤ x4 then (if x4 ≤ (wrap64 (x4 + (x3.size : Int))) then (if ((⟨#[32, 102, 117, 110, 32, 108, 101, 116, 32, 114, 101, 99, 32, 105, 110, 32, 105, 102, 32, 116, 104, 101, 110, 32, 101, 108, 115, 101, 32, 104, 97, 110, 100, 108, 101, 32, 119, 105, 116, 104, 32, 114, 101, 116, 117, 114, 110, 32, 101, 110, 100, 32, 100, 111, 32, 111, 112, 32, 116, 114, 117, 101, 32, 102, 97, 108, 115, 101, 32, 105, 110, 116, 32, 98, 111, 111, 108, 32]⟩ : ByteArray).extract (x4 : Int).toNat ((wrap64 (x4 + (x3.size : Int))) : Int).toNat).toList = x3.toList then (some true) else (Yl.l0 k x3 (wrap64 (x4 + 1)))) else (none)) else (none)) else (some false)
def Yl.f (k : Nat) (a0 : ByteArray) : Option (Bool) := (Zr.f k a0).bind fun t153 => (if t153 = true then (if 1 + a0.size ≤ 9223372036854775807 then (if ((⟨#[32]⟩ : ByteArray) ++ a0).size + 1 ≤ 9223372036854775807 then (Yl.l0 k (((⟨#[32]⟩ : ByteArray) ++ a0) ++ (⟨#[32]⟩ : ByteArray)) 0) else (none)) else (none)) else (some false))
set_option maxHeartbeats 8000000 in
set_option maxRecDepth 100000 in
theorem Yl.calls (k : Nat) (a0 : ByteArray) (r : Bool) (w : World) (h : Yl.f k a0 = some r) :
  Calls Tryz.prog 76 #[.string a0] w fun e w' => e = .returned (.bool r) ∧ xm w w' := by
 have H : ((Zr.f k a0).bind fun t153 => (if t153 = true then (if 1 + a0.size ≤ 9223372036854775807 then (if ((⟨#[32]⟩ : ByteArray) ++ a0).size + 1 ≤ 9223372036854775807 then (Yl.l0 k (((⟨#[32]⟩ : ByteArray) ++ a0) ++ (⟨#[32]⟩ : ByteArray)) 0) else (none)) else (none)) else (some false))) = some r := h;clear h;replace H := Option.bind_eq_some_iff.mp H;obtain ⟨t153, A20, H⟩ := H;replace H : (if t153 = true then (if 1 + a0.size ≤ 9223372036854775807 then (if ((⟨#[32]⟩ : ByteArray) ++ a0).size + 1 ≤ 9223372036854775807 then (Yl.l0 k (((⟨#[32]⟩ : ByteArray) ++ a0) ++ (⟨#[32]⟩ : ByteArray)) 0) else (none)) else (none)) else (some false)) = some r := H;have A2 := zf.mk A20;clear A20;by_cases c3 : t153 = true
 ·
  subst c3;have H1 : (if 1 + a0.size ≤ 9223372036854775807 then (if ((⟨#[32]⟩ : ByteArray) ++ a0).size + 1 ≤ 9223372036854775807 then (Yl.l0 k (((⟨#[32]⟩ : ByteArray) ++ a0) ++ (⟨#[32]⟩ : ByteArray)) 0) else (none)) else (none)) = some r := by rw [if_pos rfl] at H; exact H
  clear H;have H := H1;clear H1;by_cases c4 : 1 + a0.size ≤ 9223372036854775807
  ·
   rw [if_pos c4] at H;have zbn := eq_true c4;have ze8 : decide (1 + a0.size ≤ 9223372036854775807) = true := decide_eq_true c4;try have c4b2 : (9223372036854775807 < 1 + a0.size) = False := eq_false (Nat.not_lt.2 c4)
   by_cases c5 : ((⟨#[32]⟩ : ByteArray) ++ a0).size + 1 ≤ 9223372036854775807
   ·
    rw [if_pos c5] at H;have c5b0 := eq_true c5;have c5b1 : decide (((⟨#[32]⟩ : ByteArray) ++ a0).size + 1 ≤ 9223372036854775807) = true := decide_eq_true c5;try have c5b2 : (9223372036854775807 < ((⟨#[32]⟩ : ByteArray) ++ a0).size + 1) = False := eq_false (Nat.not_lt.2 c5)
    have c5s : 1 + a0.size + 1 ≤ 9223372036854775807 := by have := c5; rw [ByteArray.size_append] at this; exact this
    have c5b3 : (9223372036854775807 < 1 + a0.size + 1) = False := eq_false (Nat.not_lt.2 c5s);clear c5s;have H' := zf.mk H;clear H;go_enter Tryz.func76, Tryz.ntmps76;go_wp2_with (first | ((with_reducible refine Zw (f := 75) rfl ?_); refine Xc (some 6) rfl rfl Tryz.func75 (by kernel_rfl) rfl #[.string a0] rfl (by (try simp only [List.map_toArray, List.map_cons, List.map_nil]); first | done | rfl | (simp only [List.length_drop, List.length_take]; rfl)) ?_; (with_reducible refine (Zr.calls k a0 true _ A2.out).mono ?_); rintro e w' ⟨rfl, ⟨nd, rfl⟩⟩; refine ⟨_, rfl, ?_⟩))
    go_loopg [4] k (fun kq v4 w' => ∃ (x4_1 : Int), v4 = .int .i64 x4_1 ∧ zf (Yl.l0 kq (((⟨#[32]⟩ : ByteArray) ++ a0) ++ (⟨#[32]⟩ : ByteArray)) x4_1 = some r) ∧ zf (kq ≤ k) ∧ xm w w')
    case atStart => exact ⟨(0), (by first | rfl | (simp; done) | (simp [*]; done)), H', ⟨Nat.le_refl _⟩, by repeat (first | exact xm.refl _ | apply xm.step)⟩
    case round =>
     clear H';try clear p2
     try clear c3
     try clear c4
     try clear zbn
     try clear ze8
     try clear c4b2
     try clear c5
     try clear c5b0
     try clear c5b1
     try clear c5b2
     obtain ⟨x4_1, rfl, HA, HK1, ⟨m1, rfl⟩⟩ := hrel;generalize (((⟨#[32]⟩ : ByteArray) ++ a0) ++ (⟨#[32]⟩ : ByteArray)) = X at *;cases gk with
     | zero => exact absurd HA.out (by simp [Yl.l0])
     | succ k1 =>
      have H := HA.out;clear HA;simp only [Yl.l0] at H;by_cases c6 : (wrap64 (x4_1 + (X.size : Int))) ≤ 78
      ·
       rw [if_pos c6] at H;have zic : decide ((wrap64 (x4_1 + (X.size : Int))) ≤ 78) = true := decide_eq_true c6;clear c6;by_cases c7 : 0 ≤ x4_1
       ·
        rw [if_pos c7] at H;have zdt := eq_true c7;have c7b1 : decide (0 ≤ x4_1) = true := decide_eq_true c7;clear c7;by_cases c8 : x4_1 ≤ (wrap64 (x4_1 + (X.size : Int)))
        ·
         rw [if_pos c8] at H;have zjl := eq_true c8;have c8b1 : decide (x4_1 ≤ (wrap64 (x4_1 + (X.size : Int)))) = true := decide_eq_true c8;have c9b0 := eq_true (of_decide_eq_true (by first | (with_reducible assumption) | assumption) : (wrap64 (x4_1 + (X.size : Int))) ≤ 78);by_cases c10 : ((⟨#[32, 102, 117, 110, 32, 108, 101, 116, 32, 114, 101, 99, 32, 105, 110, 32, 105, 102, 32, 116, 104, 101, 110, 32, 101, 108, 115, 101, 32, 104, 97, 110, 100, 108, 101, 32, 119, 105, 116, 104, 32, 114, 101, 116, 117, 114, 110, 32, 101, 110, 100, 32, 100, 111, 32, 111, 112, 32, 116, 114, 117, 101, 32, 102, 97, 108, 115, 101, 32, 105, 110, 116, 32, 98, 111, 111, 108, 32]⟩ : ByteArray).extract (x4_1 : Int).toNat ((wrap64 (x4_1 + (X.size : Int))) : Int).toNat).toList = X.toList
         ·
          rw [if_pos c10] at H;have zbo : (((⟨#[32, 102, 117, 110, 32, 108, 101, 116, 32, 114, 101, 99, 32, 105, 110, 32, 105, 102, 32, 116, 104, 101, 110, 32, 101, 108, 115, 101, 32, 104, 97, 110, 100, 108, 101, 32, 119, 105, 116, 104, 32, 114, 101, 116, 117, 114, 110, 32, 101, 110, 100, 32, 100, 111, 32, 111, 112, 32, 116, 114, 117, 101, 32, 102, 97, 108, 115, 101, 32, 105, 110, 116, 32, 98, 111, 111, 108, 32]⟩ : ByteArray).extract (x4_1 : Int).toNat ((wrap64 (x4_1 + (X.size : Int))) : Int).toNat).toList == X.toList) = true := beq_iff_eq.mpr c10;have zf9 : (((⟨#[32, 102, 117, 110, 32, 108, 101, 116, 32, 114, 101, 99, 32, 105, 110, 32, 105, 102, 32, 116, 104, 101, 110, 32, 101, 108, 115, 101, 32, 104, 97, 110, 100, 108, 101, 32, 119, 105, 116, 104, 32, 114, 101, 116, 117, 114, 110, 32, 101, 110, 100, 32, 100, 111, 32, 111, 112, 32, 116, 114, 117, 101, 32, 102, 97, 108, 115, 101, 32, 105, 110, 116, 32, 98, 111, 111, 108, 32]⟩ : ByteArray).extract (x4_1 : Int).toNat ((wrap64 (x4_1 + (X.size : Int))) : Int).toNat).toList != X.toList) = false := bne_eq_false_iff_eq.mpr c10;clear c10;obtain rfl := Option.some.inj H;go_wp2
          go_ret;exact ⟨by first | rfl | (simp; done) | (simp [*]; done), by repeat (first | exact xm.refl _ | apply xm.step)⟩
         ·
          rw [if_neg c10] at H;have zbo : (((⟨#[32, 102, 117, 110, 32, 108, 101, 116, 32, 114, 101, 99, 32, 105, 110, 32, 105, 102, 32, 116, 104, 101, 110, 32, 101, 108, 115, 101, 32, 104, 97, 110, 100, 108, 101, 32, 119, 105, 116, 104, 32, 114, 101, 116, 117, 114, 110, 32, 101, 110, 100, 32, 100, 111, 32, 111, 112, 32, 116, 114, 117, 101, 32, 102, 97, 108, 115, 101, 32, 105, 110, 116, 32, 98, 111, 111, 108, 32]⟩ : ByteArray).extract (x4_1 : Int).toNat ((wrap64 (x4_1 + (X.size : Int))) : Int).toNat).toList == X.toList) = false := beq_eq_false_iff_ne.mpr c10;have zf9 : (((⟨#[32, 102, 117, 110, 32, 108, 101, 116, 32, 114, 101, 99, 32, 105, 110, 32, 105, 102, 32, 116, 104, 101, 110, 32, 101, 108, 115, 101, 32, 104, 97, 110, 100, 108, 101, 32, 119, 105, 116, 104, 32, 114, 101, 116, 117, 114, 110, 32, 101, 110, 100, 32, 100, 111, 32, 111, 112, 32, 116, 114, 117, 101, 32, 102, 97, 108, 115, 101, 32, 105, 110, 116, 32, 98, 111, 111, 108, 32]⟩ : ByteArray).extract (x4_1 : Int).toNat ((wrap64 (x4_1 + (X.size : Int))) : Int).toNat).toList != X.toList) = true := bne_iff_ne.mpr c10;have H' := zf.mk H;clear H;go_wp2
          go_roundg k1
          case measure => have := HK1.out; omega
          case rel => exact ⟨(wrap64 (x4_1 + 1)), (by first | rfl | (simp; done) | (simp [*]; done)), H', ⟨by have := HK1.out; omega⟩, by repeat (first | exact xm.refl _ | apply xm.step)⟩
        ·
         rw [if_neg c8] at H;exact absurd H (by simp)
       ·
        rw [if_neg c7] at H;exact absurd H (by simp)
      ·
       rw [if_neg c6] at H;have zic : decide ((wrap64 (x4_1 + (X.size : Int))) ≤ 78) = false := decide_eq_false c6;clear c6;obtain rfl := Option.some.inj H;go_wp2
       go_ret;exact ⟨by first | rfl | (simp; done) | (simp [*]; done), by repeat (first | exact xm.refl _ | apply xm.step)⟩
   ·
    rw [if_neg c5] at H;exact absurd H (by simp)
  ·
   rw [if_neg c4] at H;exact absurd H (by simp)
 ·
  replace c3 := Bool.eq_false_iff.mpr c3;subst c3;have H1 : (some false) = some r := by rw [if_neg (show ¬ (false = true) by decide)] at H; exact H
  clear H;have H := H1;clear H1;obtain rfl := Option.some.inj H;go_enter Tryz.func76, Tryz.ntmps76;go_wp2_with (first | ((with_reducible refine Zw (f := 75) rfl ?_); refine Xc (some 6) rfl rfl Tryz.func75 (by kernel_rfl) rfl #[.string a0] rfl (by (try simp only [List.map_toArray, List.map_cons, List.map_nil]); first | done | rfl | (simp only [List.length_drop, List.length_take]; rfl)) ?_; (with_reducible refine (Zr.calls k a0 false _ A2.out).mono ?_); rintro e w' ⟨rfl, ⟨nd, rfl⟩⟩; refine ⟨_, rfl, ?_⟩))
  go_ret;exact ⟨by first | rfl | (simp; done) | (simp [*]; done), by repeat (first | exact xm.refl _ | apply xm.step)⟩
def xh.f (k : Nat) (a0 : ByteArray) : Option (Bool) := if (a0.size : Int) ≤ 16 then ((Zr.f k a0).bind fun t221 => (if t221 = true then ((Yl.f k a0).bind fun t222 => (some (!t222))) else (some false))) else (some false)
set_option maxHeartbeats 8000000 in
set_option maxRecDepth 100000 in
theorem xh.calls (k : Nat) (a0 : ByteArray) (r : Bool) (w : World) (h : xh.f k a0 = some r) :
  Calls Tryz.prog 57 #[.string a0] w fun e w' => e = .returned (.bool r) ∧ xm w w' := by
 have H : (if (a0.size : Int) ≤ 16 then ((Zr.f k a0).bind fun t221 => (if t221 = true then ((Yl.f k a0).bind fun t222 => (some (!t222))) else (some false))) else (some false)) = some r := h;clear h;by_cases c2 : (a0.size : Int) ≤ 16
 ·
  rw [if_pos c2] at H;have ze7 : decide ((a0.size : Int) ≤ 16) = true := decide_eq_true c2;have zhk : decide (a0.size ≤ 16) = true := decide_eq_true (by omega);clear c2;replace H := Option.bind_eq_some_iff.mp H;obtain ⟨t221, A30, H⟩ := H;replace H : (if t221 = true then ((Yl.f k a0).bind fun t222 => (some (!t222))) else (some false)) = some r := H;have A3 := zf.mk A30;clear A30;by_cases c4 : t221 = true
  ·
   subst c4;have H1 : ((Yl.f k a0).bind fun t222 => (some (!t222))) = some r := by rw [if_pos rfl] at H; exact H
   clear H;have H := H1;clear H1;replace H := Option.bind_eq_some_iff.mp H;obtain ⟨t222, A50, H⟩ := H;replace H : (some (!t222)) = some r := H;have A5 := zf.mk A50;clear A50;obtain rfl := Option.some.inj H;go_enter Tryz.func57, Tryz.ntmps57;go_wp2_with (first | (go_at_call 75; (with_reducible refine (Zr.calls k a0 true _ A3.out).mono ?_); rintro e w' ⟨rfl, ⟨nd, rfl⟩⟩) | (go_at_call 76; (with_reducible refine (Yl.calls k a0 t222 _ A5.out).mono ?_); rintro e w' ⟨rfl, ⟨nd, rfl⟩⟩))
   go_ret;exact ⟨by first | rfl | (simp; done) | (simp [*]; done), by repeat (first | exact xm.refl _ | apply xm.step)⟩
  ·
   replace c4 := Bool.eq_false_iff.mpr c4;subst c4;have H1 : (some false) = some r := by rw [if_neg (show ¬ (false = true) by decide)] at H; exact H
   clear H;have H := H1;clear H1;obtain rfl := Option.some.inj H;go_enter Tryz.func57, Tryz.ntmps57;go_wp2_with (first | (go_at_call 75; (with_reducible refine (Zr.calls k a0 false _ A3.out).mono ?_); rintro e w' ⟨rfl, ⟨nd, rfl⟩⟩))
   go_ret;exact ⟨by first | rfl | (simp; done) | (simp [*]; done), by repeat (first | exact xm.refl _ | apply xm.step)⟩
 ·
  rw [if_neg c2] at H;have ze7 : decide ((a0.size : Int) ≤ 16) = false := decide_eq_false c2;have zhk : decide (a0.size ≤ 16) = false := decide_eq_false (by omega);clear c2;obtain rfl := Option.some.inj H;go_enter Tryz.func57, Tryz.ntmps57;go_wp2
  go_ret;exact ⟨by first | rfl | (simp; done) | (simp [*]; done), by repeat (first | exact xm.refl _ | apply xm.step)⟩
def Y9.f (a0 : Int) : Option (Bool) := if a0 = 0 then (some true) else (some (a0 == 1))
set_option maxHeartbeats 8000000 in
set_option maxRecDepth 100000 in
theorem Y9.calls (a0 : Int) (r : Bool) (w : World) (h : Y9.f a0 = some r) :
  Calls Tryz.prog 58 #[.int .i64 a0] w fun e w' => e = .returned (.bool r) ∧ xm w w' := by
 have H : (if a0 = 0 then (some true) else (some (a0 == 1))) = some r := h;clear h;by_cases c2 : a0 = 0
 ·
  rw [if_pos c2] at H;have ze7 : (a0 == 0) = true := beq_iff_eq.mpr c2;have zhk : (a0 != 0) = false := bne_eq_false_iff_eq.mpr c2;clear c2;obtain rfl := Option.some.inj H;go_enter Tryz.func58, Tryz.ntmps58;go_wp2
  go_ret;exact ⟨by first | rfl | (simp; done) | (simp [*]; done), by repeat (first | exact xm.refl _ | apply xm.step)⟩
 ·
  rw [if_neg c2] at H;have ze7 : (a0 == 0) = false := beq_eq_false_iff_ne.mpr c2;have zhk : (a0 != 0) = true := bne_iff_ne.mpr c2;obtain rfl := Option.some.inj H;go_enter Tryz.func58, Tryz.ntmps58;go_wp2
  go_ret;exact ⟨by first | rfl | (simp; done) | (simp [*]; done), by repeat (first | exact xm.refl _ | apply xm.step)⟩
def Zz.l0 : Nat → List (S42) → Int → Option (Bool)
 | 0, _, _ => none
 | k + 1, x0, x3 => if x3 < (x0.length : Int) then (if 0 ≤ x3 then ((xh.f k ((Zp x0 x3).f0)).bind fun t224 => (if t224 = true then ((Y9.f ((Zp x0 x3).f1)).bind fun t226 => (if t226 = true then ((Y9.f ((Zp x0 x3).f2)).bind fun t228 => (if t228 = true then (Zz.l0 k x0 (wrap64 (x3 + 1))) else (some false))) else (some false))) else (some false))) else (none)) else (some true)
def Zz.f (k : Nat) (l0 : List (S42)) : Option (Bool) := if (l0.length : Int) > 4 then (some false) else (Zz.l0 k l0 0)
set_option maxHeartbeats 8000000 in
set_option maxRecDepth 100000 in
theorem Zz.calls (k : Nat) (A0 : Option Addr) (c0 : Nat) (l0 : List (S42)) (r : Bool) (w : World) (hr0 : Kd.C k42 w A0 l0.length l0) (hc0 : l0.length ≤ c0) (h : Zz.f k l0 = some r) :
  Calls Tryz.prog 29 #[.slice A0 l0.length c0] w fun e w' => e = .returned (.bool r) ∧ xm w w' := by
 have HR0 := zf.mk hr0;have HC0 := zf.mk hc0;clear hr0 hc0;have H : (if (l0.length : Int) > 4 then (some false) else (Zz.l0 k l0 0)) = some r := h;clear h;by_cases c2 : (l0.length : Int) > 4
 ·
  rw [if_pos c2] at H;have ze7 : decide (4 < (l0.length : Int)) = true := decide_eq_true c2;have zhk : decide (4 < l0.length) = true := decide_eq_true (by omega);clear c2;obtain rfl := Option.some.inj H;go_enter Tryz.func29, Tryz.ntmps29;go_wp2
  go_ret;exact ⟨by first | rfl | (simp; done) | (simp [*]; done), by repeat (first | exact xm.refl _ | apply xm.step)⟩
 ·
  rw [if_neg c2] at H;have ze7 : decide (4 < (l0.length : Int)) = false := decide_eq_false c2;have zhk : decide (4 < l0.length) = false := decide_eq_false (by omega);clear c2;have H' := zf.mk H;clear H;go_enter Tryz.func29, Tryz.ntmps29;go_wp2
  go_loopg [3] k (fun kq v3 w' => ∃ (x3_1 : Int), v3 = .int .i64 x3_1 ∧ zf (Zz.l0 kq l0 x3_1 = some r) ∧ zf (kq ≤ k) ∧ xm w w')
  case atStart => exact ⟨(0), (by first | rfl | (simp; done) | (simp [*]; done)), H', ⟨Nat.le_refl _⟩, by repeat (first | exact xm.refl _ | apply xm.step)⟩
  case round =>
   clear H';try clear c2
   try clear ze7
   try clear zhk
   try clear p2
   obtain ⟨x3_1, rfl, HA, HK1, ⟨m1, rfl⟩⟩ := hrel;cases gk with
   | zero => exact absurd HA.out (by simp [Zz.l0])
   | succ k1 =>
    have H := HA.out;clear HA;simp only [Zz.l0] at H;by_cases c3 : x3_1 < (l0.length : Int)
    ·
     rw [if_pos c3] at H;have zbm : decide (x3_1 < (l0.length : Int)) = true := decide_eq_true c3;clear c3;by_cases c4 : 0 ≤ x3_1
     ·
      rw [if_pos c4] at H;have zbn : decide (0 ≤ x3_1) = true := decide_eq_true c4;clear c4;replace H := Option.bind_eq_some_iff.mp H;obtain ⟨t224, A50, H⟩ := H;replace H : (if t224 = true then ((Y9.f ((Zp l0 x3_1).f1)).bind fun t226 => (if t226 = true then ((Y9.f ((Zp l0 x3_1).f2)).bind fun t228 => (if t228 = true then (Zz.l0 k1 l0 (wrap64 (x3_1 + 1))) else (some false))) else (some false))) else (some false)) = some r := H;have A5 := zf.mk A50;clear A50;by_cases c6 : t224 = true
      ·
       subst c6;have H1 : ((Y9.f ((Zp l0 x3_1).f1)).bind fun t226 => (if t226 = true then ((Y9.f ((Zp l0 x3_1).f2)).bind fun t228 => (if t228 = true then (Zz.l0 k1 l0 (wrap64 (x3_1 + 1))) else (some false))) else (some false))) = some r := by rw [if_pos rfl] at H; exact H
       clear H;have H := H1;clear H1;replace H := Option.bind_eq_some_iff.mp H;obtain ⟨t226, A70, H⟩ := H;replace H : (if t226 = true then ((Y9.f ((Zp l0 x3_1).f2)).bind fun t228 => (if t228 = true then (Zz.l0 k1 l0 (wrap64 (x3_1 + 1))) else (some false))) else (some false)) = some r := H;have A7 := zf.mk A70;clear A70;by_cases c8 : t226 = true
       ·
        subst c8;have H1 : ((Y9.f ((Zp l0 x3_1).f2)).bind fun t228 => (if t228 = true then (Zz.l0 k1 l0 (wrap64 (x3_1 + 1))) else (some false))) = some r := by rw [if_pos rfl] at H; exact H
        clear H;have H := H1;clear H1;replace H := Option.bind_eq_some_iff.mp H;obtain ⟨t228, A90, H⟩ := H;replace H : (if t228 = true then (Zz.l0 k1 l0 (wrap64 (x3_1 + 1))) else (some false)) = some r := H;have A9 := zf.mk A90;clear A90;by_cases c10 : t228 = true
        ·
         subst c10;have H1 : (Zz.l0 k1 l0 (wrap64 (x3_1 + 1))) = some r := by rw [if_pos rfl] at H; exact H
         clear H;have H := H1;clear H1;have H' := zf.mk H;clear H;have p223 : 0 ≤ (x3_1 : Int) := of_decide_eq_true (by first | (with_reducible assumption) | assumption);have q223 : x3_1 < (l0.length : Int) := of_decide_eq_true (by first | (with_reducible assumption) | assumption);obtain ⟨zkw, e223, zo4, zo5, zo6⟩ := za5 HR0.out x3_1 p223 q223;cases e223;replace p223 := eq_true p223;replace q223 := eq_true q223;go_wp2_with (first | ((with_reducible refine Zw (f := 57) rfl ?_); refine Xc (some 18) rfl rfl Tryz.func57 (by kernel_rfl) rfl #[.string ((Zp l0 x3_1).f0)] rfl (by (try simp only [List.map_toArray, List.map_cons, List.map_nil]); first | done | rfl | (simp only [List.length_drop, List.length_take]; rfl)) ?_; (with_reducible refine (xh.calls k1 ((Zp l0 x3_1).f0) true _ A5.out).mono ?_); rintro e w' ⟨rfl, ⟨nd, rfl⟩⟩; refine ⟨_, rfl, ?_⟩; have p225 : 0 ≤ (x3_1 : Int) := of_decide_eq_true (by first | (with_reducible assumption) | assumption); have q225 : x3_1 < (l0.length : Int) := of_decide_eq_true (by first | (with_reducible assumption) | assumption); obtain ⟨zqu, e225, zsh, zsi, zsj⟩ := za5 HR0.out x3_1 p225 q225; obtain rfl : zkw = zqu := (by injection e225); replace p225 := eq_true p225; replace q225 := eq_true q225) | (go_at_call 58; (with_reducible refine (Y9.calls ((Zp l0 x3_1).f1) true _ A7.out).mono ?_); rintro e w' ⟨rfl, ⟨nd, rfl⟩⟩; have p227 : 0 ≤ (x3_1 : Int) := of_decide_eq_true (by first | (with_reducible assumption) | assumption); have q227 : x3_1 < (l0.length : Int) := of_decide_eq_true (by first | (with_reducible assumption) | assumption); obtain ⟨ad227, e227, hx227_0, hx227_1, hx227_2⟩ := za5 HR0.out x3_1 p227 q227; obtain rfl : zkw = ad227 := (by injection e227); replace p227 := eq_true p227; replace q227 := eq_true q227) | (go_at_call 58; (with_reducible refine (Y9.calls ((Zp l0 x3_1).f2) true _ A9.out).mono ?_); rintro e w' ⟨rfl, ⟨nd, rfl⟩⟩))
         go_roundg k1
         case measure => have := HK1.out; omega
         case rel => exact ⟨(wrap64 (x3_1 + 1)), (by first | rfl | (simp; done) | (simp [*]; done)), H', ⟨by have := HK1.out; omega⟩, by repeat (first | exact xm.refl _ | apply xm.step)⟩
        ·
         replace c10 := Bool.eq_false_iff.mpr c10;subst c10;have H1 : (some false) = some r := by rw [if_neg (show ¬ (false = true) by decide)] at H; exact H
         clear H;have H := H1;clear H1;obtain rfl := Option.some.inj H;have p223 : 0 ≤ (x3_1 : Int) := of_decide_eq_true (by first | (with_reducible assumption) | assumption);have q223 : x3_1 < (l0.length : Int) := of_decide_eq_true (by first | (with_reducible assumption) | assumption);obtain ⟨zkw, e223, zo4, zo5, zo6⟩ := za5 HR0.out x3_1 p223 q223;cases e223;replace p223 := eq_true p223;replace q223 := eq_true q223;go_wp2_with (first | ((with_reducible refine Zw (f := 57) rfl ?_); refine Xc (some 18) rfl rfl Tryz.func57 (by kernel_rfl) rfl #[.string ((Zp l0 x3_1).f0)] rfl (by (try simp only [List.map_toArray, List.map_cons, List.map_nil]); first | done | rfl | (simp only [List.length_drop, List.length_take]; rfl)) ?_; (with_reducible refine (xh.calls k1 ((Zp l0 x3_1).f0) true _ A5.out).mono ?_); rintro e w' ⟨rfl, ⟨nd, rfl⟩⟩; refine ⟨_, rfl, ?_⟩; have p225 : 0 ≤ (x3_1 : Int) := of_decide_eq_true (by first | (with_reducible assumption) | assumption); have q225 : x3_1 < (l0.length : Int) := of_decide_eq_true (by first | (with_reducible assumption) | assumption); obtain ⟨zqu, e225, zsh, zsi, zsj⟩ := za5 HR0.out x3_1 p225 q225; obtain rfl : zkw = zqu := (by injection e225); replace p225 := eq_true p225; replace q225 := eq_true q225) | (go_at_call 58; (with_reducible refine (Y9.calls ((Zp l0 x3_1).f1) true _ A7.out).mono ?_); rintro e w' ⟨rfl, ⟨nd, rfl⟩⟩; have p227 : 0 ≤ (x3_1 : Int) := of_decide_eq_true (by first | (with_reducible assumption) | assumption); have q227 : x3_1 < (l0.length : Int) := of_decide_eq_true (by first | (with_reducible assumption) | assumption); obtain ⟨ad227, e227, hx227_0, hx227_1, hx227_2⟩ := za5 HR0.out x3_1 p227 q227; obtain rfl : zkw = ad227 := (by injection e227); replace p227 := eq_true p227; replace q227 := eq_true q227) | (go_at_call 58; (with_reducible refine (Y9.calls ((Zp l0 x3_1).f2) false _ A9.out).mono ?_); rintro e w' ⟨rfl, ⟨nd, rfl⟩⟩))
         go_ret;exact ⟨by first | rfl | (simp; done) | (simp [*]; done), by repeat (first | exact xm.refl _ | apply xm.step)⟩
       ·
        replace c8 := Bool.eq_false_iff.mpr c8;subst c8;have H1 : (some false) = some r := by rw [if_neg (show ¬ (false = true) by decide)] at H; exact H
        clear H;have H := H1;clear H1;obtain rfl := Option.some.inj H;have p223 : 0 ≤ (x3_1 : Int) := of_decide_eq_true (by first | (with_reducible assumption) | assumption);have q223 : x3_1 < (l0.length : Int) := of_decide_eq_true (by first | (with_reducible assumption) | assumption);obtain ⟨zkw, e223, zo4, zo5, zo6⟩ := za5 HR0.out x3_1 p223 q223;cases e223;replace p223 := eq_true p223;replace q223 := eq_true q223;go_wp2_with (first | ((with_reducible refine Zw (f := 57) rfl ?_); refine Xc (some 18) rfl rfl Tryz.func57 (by kernel_rfl) rfl #[.string ((Zp l0 x3_1).f0)] rfl (by (try simp only [List.map_toArray, List.map_cons, List.map_nil]); first | done | rfl | (simp only [List.length_drop, List.length_take]; rfl)) ?_; (with_reducible refine (xh.calls k1 ((Zp l0 x3_1).f0) true _ A5.out).mono ?_); rintro e w' ⟨rfl, ⟨nd, rfl⟩⟩; refine ⟨_, rfl, ?_⟩; have p225 : 0 ≤ (x3_1 : Int) := of_decide_eq_true (by first | (with_reducible assumption) | assumption); have q225 : x3_1 < (l0.length : Int) := of_decide_eq_true (by first | (with_reducible assumption) | assumption); obtain ⟨zqu, e225, zsh, zsi, zsj⟩ := za5 HR0.out x3_1 p225 q225; obtain rfl : zkw = zqu := (by injection e225); replace p225 := eq_true p225; replace q225 := eq_true q225) | (go_at_call 58; (with_reducible refine (Y9.calls ((Zp l0 x3_1).f1) false _ A7.out).mono ?_); rintro e w' ⟨rfl, ⟨nd, rfl⟩⟩))
        go_ret;exact ⟨by first | rfl | (simp; done) | (simp [*]; done), by repeat (first | exact xm.refl _ | apply xm.step)⟩
      ·
       replace c6 := Bool.eq_false_iff.mpr c6;subst c6;have H1 : (some false) = some r := by rw [if_neg (show ¬ (false = true) by decide)] at H; exact H
       clear H;have H := H1;clear H1;obtain rfl := Option.some.inj H;have p223 : 0 ≤ (x3_1 : Int) := of_decide_eq_true (by first | (with_reducible assumption) | assumption);have q223 : x3_1 < (l0.length : Int) := of_decide_eq_true (by first | (with_reducible assumption) | assumption);obtain ⟨zkw, e223, zo4, zo5, zo6⟩ := za5 HR0.out x3_1 p223 q223;cases e223;replace p223 := eq_true p223;replace q223 := eq_true q223;go_wp2_with (first | ((with_reducible refine Zw (f := 57) rfl ?_); refine Xc (some 18) rfl rfl Tryz.func57 (by kernel_rfl) rfl #[.string ((Zp l0 x3_1).f0)] rfl (by (try simp only [List.map_toArray, List.map_cons, List.map_nil]); first | done | rfl | (simp only [List.length_drop, List.length_take]; rfl)) ?_; (with_reducible refine (xh.calls k1 ((Zp l0 x3_1).f0) false _ A5.out).mono ?_); rintro e w' ⟨rfl, ⟨nd, rfl⟩⟩; refine ⟨_, rfl, ?_⟩))
       go_ret;exact ⟨by first | rfl | (simp; done) | (simp [*]; done), by repeat (first | exact xm.refl _ | apply xm.step)⟩
     ·
      rw [if_neg c4] at H;exact absurd H (by simp)
    ·
     rw [if_neg c3] at H;have zbm : decide (x3_1 < (l0.length : Int)) = false := decide_eq_false c3;clear c3;obtain rfl := Option.some.inj H;go_wp2
     go_ret;exact ⟨by first | rfl | (simp; done) | (simp [*]; done), by repeat (first | exact xm.refl _ | apply xm.step)⟩
mutual
def zt.j0 : Nat → Int → Bool → Option (Int)
 | 0, _, _ => none
 | k + 1, x3, x4 => if x4 = true then (some 0) else (if x3 = 3 then (zt.j1 k x3 (x3 == 3)) else (zt.j1 k x3 (x3 == 9)))
def zt.j1 : Nat → Int → Bool → Option (Int)
 | 0, _, _ => none
 | k + 1, x3, x8 => if x8 = true then (some 1) else (if x3 = 4 then (zt.j2 k x3 (x3 == 4)) else (if x3 = 5 then (zt.j2 k x3 (x3 == 5)) else (if x3 = 6 then (zt.j2 k x3 (x3 == 6)) else (zt.j2 k x3 (x3 == 8)))))
def zt.j2 : Nat → Int → Bool → Option (Int)
 | 0, _, _ => none
 | k + 1, x3, x11 => if x11 = true then (some 2) else (if x3 = 7 then (some 3) else (if x3 = 10 then (some 3) else (some (-1))))
end
def zt.f (k : Nat) (a0 : Int) : Option (Int) := if a0 = 0 then (zt.j0 k a0 (a0 == 0)) else (if a0 = 1 then (zt.j0 k a0 (a0 == 1)) else (zt.j0 k a0 (a0 == 2)))
theorem zt.zci : ∀ k, (∀ y0 y1, LeO (zt.j0 k y0 y1) (zt.j0 (k + 1) y0 y1)) ∧ (∀ y0 y1, LeO (zt.j1 k y0 y1) (zt.j1 (k + 1) y0 y1)) ∧ (∀ y0 y1, LeO (zt.j2 k y0 y1) (zt.j2 (k + 1) y0 y1))
 | 0 => ⟨fun _ _ r h => by simp [zt.j0] at h, fun _ _ r h => by simp [zt.j1] at h, fun _ _ r h => by simp [zt.j2] at h⟩
 | k + 1 => by
  obtain ⟨ih0, ih1, ih2⟩ := zt.zci k;refine ⟨?_, ?_, ?_⟩
  ·
   intro y0 y1;unfold zt.j0;repeat' first
   | (with_reducible exact ih0 _ _)
   | (with_reducible exact ih1 _ _)
   | (with_reducible exact ih2 _ _)
   | (with_reducible exact LeO.refl _)
   | (with_reducible exact LeO.none _)
   | (with_reducible refine LeO.ite ?_ ?_)
   | (with_reducible refine LeO.bind ?_ (fun _ => ?_))
   | exact ih0 _ _
   | exact ih1 _ _
   | exact ih2 _ _
   | exact LeO.none _
   | refine LeO.ite ?_ ?_
   | refine LeO.bind ?_ (fun _ => ?_)
  ·
   intro y0 y1;unfold zt.j1;repeat' first
   | (with_reducible exact ih0 _ _)
   | (with_reducible exact ih1 _ _)
   | (with_reducible exact ih2 _ _)
   | (with_reducible exact LeO.refl _)
   | (with_reducible exact LeO.none _)
   | (with_reducible refine LeO.ite ?_ ?_)
   | (with_reducible refine LeO.bind ?_ (fun _ => ?_))
   | exact ih0 _ _
   | exact ih1 _ _
   | exact ih2 _ _
   | exact LeO.none _
   | refine LeO.ite ?_ ?_
   | refine LeO.bind ?_ (fun _ => ?_)
  ·
   intro y0 y1;unfold zt.j2;repeat' first
   | (with_reducible exact ih0 _ _)
   | (with_reducible exact ih1 _ _)
   | (with_reducible exact ih2 _ _)
   | (with_reducible exact LeO.refl _)
   | (with_reducible exact LeO.none _)
   | (with_reducible refine LeO.ite ?_ ?_)
   | (with_reducible refine LeO.bind ?_ (fun _ => ?_))
   | exact ih0 _ _
   | exact ih1 _ _
   | exact ih2 _ _
   | exact LeO.none _
   | refine LeO.ite ?_ ?_
   | refine LeO.bind ?_ (fun _ => ?_)
theorem zt.mono : ∀ a0 k, LeO (zt.f k a0) (zt.f (k + 1) a0) := by
 intro a0 k;obtain ⟨ih0, ih1, ih2⟩ := zt.zci k;unfold zt.f;repeat' first
   | (with_reducible exact ih0 _ _)
   | (with_reducible exact ih1 _ _)
   | (with_reducible exact ih2 _ _)
   | (with_reducible exact LeO.refl _)
   | (with_reducible exact LeO.none _)
   | (with_reducible refine LeO.ite ?_ ?_)
   | (with_reducible refine LeO.bind ?_ (fun _ => ?_))
   | exact ih0 _ _
   | exact ih1 _ _
   | exact ih2 _ _
   | exact LeO.none _
   | refine LeO.ite ?_ ?_
   | refine LeO.bind ?_ (fun _ => ?_)
set_option maxHeartbeats 8000000 in
set_option maxRecDepth 100000 in
theorem zt.calls (k : Nat) (a0 : Int) (r : Int) (w : World) (h : zt.f k a0 = some r) :
  Calls Tryz.prog 77 #[.int .i64 a0] w fun e w' => e = .returned (.int .i64 r) ∧ xm w w' := by
 have H : (if a0 = 0 then (zt.j0 k a0 (a0 == 0)) else (if a0 = 1 then (zt.j0 k a0 (a0 == 1)) else (zt.j0 k a0 (a0 == 2)))) = some r := h;clear h;have HC2 := zf.mk H;clear H;go_enter Tryz.func77, Tryz.ntmps77;go_upto_if 4 with (fail)
 go_cut [4] (fun v4 wc => ∃ (kq : Nat) (x4_1 : Bool), v4 = .bool x4_1 ∧ zf (zt.j0 kq a0 x4_1 = some r) ∧ zf (kq ≤ k) ∧ xm w wc)
 case first =>
  have H := HC2.out;clear HC2;by_cases c3 : a0 = 0
  ·
   rw [if_pos c3] at H;have zbm : (a0 == 0) = true := beq_iff_eq.mpr c3;have zga : (a0 != 0) = false := bne_eq_false_iff_eq.mpr c3;clear c3
   (first | rw [zbm] | (simp only [Yy, Y6]; rw [zbm]) | skip)
   have H' := zf.mk H;clear H;go_wp2
   go_meet
   case rel => exact ⟨_, ((a0 == 0)), (by first | rfl | (simp; done) | (simp [*]; done)), H', ⟨by first | omega | exact Nat.le_refl _⟩, by repeat (first | exact xm.refl _ | apply xm.step)⟩
  ·
   rw [if_neg c3] at H;have zbm : (a0 == 0) = false := beq_eq_false_iff_ne.mpr c3;have zga : (a0 != 0) = true := bne_iff_ne.mpr c3
   (first | rw [zbm] | (simp only [Yy, Y6]; rw [zbm]) | skip)
   by_cases c4 : a0 = 1
   ·
    rw [if_pos c4] at H;have zbn : (a0 == 1) = true := beq_iff_eq.mpr c4;have ze8 : (a0 != 1) = false := bne_eq_false_iff_eq.mpr c4;clear c4;have H' := zf.mk H;clear H;go_wp2
    go_meet
    case rel => exact ⟨_, ((a0 == 1)), (by first | rfl | (simp; done) | (simp [*]; done)), H', ⟨by first | omega | exact Nat.le_refl _⟩, by repeat (first | exact xm.refl _ | apply xm.step)⟩
   ·
    rw [if_neg c4] at H;have zbn : (a0 == 1) = false := beq_eq_false_iff_ne.mpr c4;have ze8 : (a0 != 1) = true := bne_iff_ne.mpr c4;have H' := zf.mk H;clear H;go_wp2
    go_meet
    case rel => exact ⟨_, ((a0 == 2)), (by first | rfl | (simp; done) | (simp [*]; done)), H', ⟨by first | omega | exact Nat.le_refl _⟩, by repeat (first | exact xm.refl _ | apply xm.step)⟩
 case rest =>
  clear HC2;try clear p2
  try clear c3
  try clear zbm
  try clear zga
  try clear c4
  try clear zbn
  try clear ze8
  obtain ⟨kq, x4_1, rfl, HA, HJ1, ⟨mc1, rfl⟩⟩ := hcut;cases kq with
  | zero => exact absurd HA.out (by simp [zt.j0])
  | succ kj1 =>
   have H := HA.out;clear HA;simp only [zt.j0] at H;by_cases c5 : x4_1 = true
   ·
    subst c5;have H1 : (some 0) = some r := by rw [if_pos rfl] at H; exact H
    clear H;have H := H1;clear H1;obtain rfl := Option.some.inj H;go_wp2
    go_ret;exact ⟨by first | rfl | (simp; done) | (simp [*]; done), by repeat (first | exact xm.refl _ | apply xm.step)⟩
   ·
    replace c5 := Bool.eq_false_iff.mpr c5;subst c5;have H1 : (if a0 = 3 then (zt.j1 kj1 a0 (a0 == 3)) else (zt.j1 kj1 a0 (a0 == 9))) = some r := by rw [if_neg (show ¬ (false = true) by decide)] at H; exact H
    clear H;have H := H1;clear H1;have HC6 := zf.mk H;clear H;go_upto_if 8 with (fail)
    go_cut [8] (fun v8 wc => ∃ (kq : Nat) (x8_5 : Bool), v8 = .bool x8_5 ∧ zf (zt.j1 kq a0 x8_5 = some r) ∧ zf (kq ≤ kj1) ∧ xm w wc)
    case first =>
     have H := HC6.out;clear HC6;by_cases c7 : a0 = 3
     ·
      rw [if_pos c7] at H;have zdt : (a0 == 3) = true := beq_iff_eq.mpr c7;have c7b1 : (a0 != 3) = false := bne_eq_false_iff_eq.mpr c7;clear c7
      (first | rw [zdt] | (simp only [Yy, Y6]; rw [zdt]) | skip)
      have H' := zf.mk H;clear H;go_wp2
      go_meet
      case rel => exact ⟨_, ((a0 == 3)), (by first | rfl | (simp; done) | (simp [*]; done)), H', ⟨by have := HJ1.out; first | omega | exact Nat.le_refl _⟩, by repeat (first | exact xm.refl _ | apply xm.step)⟩
     ·
      rw [if_neg c7] at H;have zdt : (a0 == 3) = false := beq_eq_false_iff_ne.mpr c7;have c7b1 : (a0 != 3) = true := bne_iff_ne.mpr c7
      (first | rw [zdt] | (simp only [Yy, Y6]; rw [zdt]) | skip)
      have H' := zf.mk H;clear H;go_wp2
      go_meet
      case rel => exact ⟨_, ((a0 == 9)), (by first | rfl | (simp; done) | (simp [*]; done)), H', ⟨by have := HJ1.out; first | omega | exact Nat.le_refl _⟩, by repeat (first | exact xm.refl _ | apply xm.step)⟩
    case rest =>
     clear HC6;try clear c1
     try clear p2
     try clear c3
     try clear zbm
     try clear zga
     try clear c4
     try clear zbn
     try clear ze8
     try clear c5
     try clear c7
     try clear zdt
     try clear c7b1
     try clear p2
     obtain ⟨kq, x8_5, rfl, HA, HJ5, ⟨mc5, rfl⟩⟩ := hcut;cases kq with
     | zero => exact absurd HA.out (by simp [zt.j1])
     | succ kj5 =>
      have H := HA.out;clear HA;simp only [zt.j1] at H;by_cases c8 : x8_5 = true
      ·
       subst c8;have H1 : (some 1) = some r := by rw [if_pos rfl] at H; exact H
       clear H;have H := H1;clear H1;obtain rfl := Option.some.inj H;go_wp2
       go_ret;exact ⟨by first | rfl | (simp; done) | (simp [*]; done), by repeat (first | exact xm.refl _ | apply xm.step)⟩
      ·
       replace c8 := Bool.eq_false_iff.mpr c8;subst c8;have H1 : (if a0 = 4 then (zt.j2 kj5 a0 (a0 == 4)) else (if a0 = 5 then (zt.j2 kj5 a0 (a0 == 5)) else (if a0 = 6 then (zt.j2 kj5 a0 (a0 == 6)) else (zt.j2 kj5 a0 (a0 == 8))))) = some r := by rw [if_neg (show ¬ (false = true) by decide)] at H; exact H
       clear H;have H := H1;clear H1;have HC9 := zf.mk H;clear H;go_upto_if 11 with (fail)
       go_cut [11] (fun v11 wc => ∃ (kq : Nat) (x11_8 : Bool), v11 = .bool x11_8 ∧ zf (zt.j2 kq a0 x11_8 = some r) ∧ zf (kq ≤ kj5) ∧ xm w wc)
       case first =>
        have H := HC9.out;clear HC9;by_cases c10 : a0 = 4
        ·
         rw [if_pos c10] at H;have zbo : (a0 == 4) = true := beq_iff_eq.mpr c10;have zf9 : (a0 != 4) = false := bne_eq_false_iff_eq.mpr c10;clear c10
         (first | rw [zbo] | (simp only [Yy, Y6]; rw [zbo]) | skip)
         have H' := zf.mk H;clear H;go_wp2
         go_meet
         case rel => exact ⟨_, ((a0 == 4)), (by first | rfl | (simp; done) | (simp [*]; done)), H', ⟨by have := HJ1.out; have := HJ5.out; first | omega | exact Nat.le_refl _⟩, by repeat (first | exact xm.refl _ | apply xm.step)⟩
        ·
         rw [if_neg c10] at H;have zbo : (a0 == 4) = false := beq_eq_false_iff_ne.mpr c10;have zf9 : (a0 != 4) = true := bne_iff_ne.mpr c10
         (first | rw [zbo] | (simp only [Yy, Y6]; rw [zbo]) | skip)
         by_cases c11 : a0 = 5
         ·
          rw [if_pos c11] at H;have zgt : (a0 == 5) = true := beq_iff_eq.mpr c11;have zib : (a0 != 5) = false := bne_eq_false_iff_eq.mpr c11;clear c11;have H' := zf.mk H;clear H;go_wp2
          go_meet
          case rel => exact ⟨_, ((a0 == 5)), (by first | rfl | (simp; done) | (simp [*]; done)), H', ⟨by have := HJ1.out; have := HJ5.out; first | omega | exact Nat.le_refl _⟩, by repeat (first | exact xm.refl _ | apply xm.step)⟩
         ·
          rw [if_neg c11] at H;have zgt : (a0 == 5) = false := beq_eq_false_iff_ne.mpr c11;have zib : (a0 != 5) = true := bne_iff_ne.mpr c11;by_cases c12 : a0 = 6
          ·
           rw [if_pos c12] at H;have c12b0 : (a0 == 6) = true := beq_iff_eq.mpr c12;have c12b1 : (a0 != 6) = false := bne_eq_false_iff_eq.mpr c12;clear c12;have H' := zf.mk H;clear H;go_wp2
           go_meet
           case rel => exact ⟨_, ((a0 == 6)), (by first | rfl | (simp; done) | (simp [*]; done)), H', ⟨by have := HJ1.out; have := HJ5.out; first | omega | exact Nat.le_refl _⟩, by repeat (first | exact xm.refl _ | apply xm.step)⟩
          ·
           rw [if_neg c12] at H;have c12b0 : (a0 == 6) = false := beq_eq_false_iff_ne.mpr c12;have c12b1 : (a0 != 6) = true := bne_iff_ne.mpr c12;have H' := zf.mk H;clear H;go_wp2
           go_meet
           case rel => exact ⟨_, ((a0 == 8)), (by first | rfl | (simp; done) | (simp [*]; done)), H', ⟨by have := HJ1.out; have := HJ5.out; first | omega | exact Nat.le_refl _⟩, by repeat (first | exact xm.refl _ | apply xm.step)⟩
       case rest =>
        clear HC9;try clear c1
        try clear p2
        try clear c3
        try clear zbm
        try clear zga
        try clear c4
        try clear zbn
        try clear ze8
        try clear c5
        try clear c7
        try clear zdt
        try clear c7b1
        try clear c8
        try clear c10
        try clear zbo
        try clear zf9
        try clear c11
        try clear zgt
        try clear zib
        try clear c12
        try clear c12b0
        try clear c12b1
        try clear p2
        obtain ⟨kq, x11_8, rfl, HA, HJ8, ⟨mc8, rfl⟩⟩ := hcut;cases kq with
        | zero => exact absurd HA.out (by simp [zt.j2])
        | succ kj8 =>
         have H := HA.out;clear HA;simp only [zt.j2] at H;by_cases c13 : x11_8 = true
         ·
          subst c13;have H1 : (some 2) = some r := by rw [if_pos rfl] at H; exact H
          clear H;have H := H1;clear H1;obtain rfl := Option.some.inj H;go_wp2
          go_ret;exact ⟨by first | rfl | (simp; done) | (simp [*]; done), by repeat (first | exact xm.refl _ | apply xm.step)⟩
         ·
          replace c13 := Bool.eq_false_iff.mpr c13;subst c13;have H1 : (if a0 = 7 then (some 3) else (if a0 = 10 then (some 3) else (some (-1)))) = some r := by rw [if_neg (show ¬ (false = true) by decide)] at H; exact H
          clear H;have H := H1;clear H1;by_cases c14 : a0 = 7
          ·
           rw [if_pos c14] at H;have c14b0 : (a0 == 7) = true := beq_iff_eq.mpr c14;have c14b1 : (a0 != 7) = false := bne_eq_false_iff_eq.mpr c14;clear c14;obtain rfl := Option.some.inj H;go_wp2
           go_ret;exact ⟨by first | rfl | (simp; done) | (simp [*]; done), by repeat (first | exact xm.refl _ | apply xm.step)⟩
          ·
           rw [if_neg c14] at H;have c14b0 : (a0 == 7) = false := beq_eq_false_iff_ne.mpr c14;have c14b1 : (a0 != 7) = true := bne_iff_ne.mpr c14;by_cases c15 : a0 = 10
           ·
            rw [if_pos c15] at H;have znk : (a0 == 10) = true := beq_iff_eq.mpr c15;have c15b1 : (a0 != 10) = false := bne_eq_false_iff_eq.mpr c15;clear c15;obtain rfl := Option.some.inj H;go_wp2
            go_ret;exact ⟨by first | rfl | (simp; done) | (simp [*]; done), by repeat (first | exact xm.refl _ | apply xm.step)⟩
           ·
            rw [if_neg c15] at H;have znk : (a0 == 10) = false := beq_eq_false_iff_ne.mpr c15;have c15b1 : (a0 != 10) = true := bne_iff_ne.mpr c15;obtain rfl := Option.some.inj H;go_wp2
            go_ret;exact ⟨by first | rfl | (simp; done) | (simp [*]; done), by repeat (first | exact xm.refl _ | apply xm.step)⟩
open Go.RowKit Go.Proofs.YtfcjpkkglffnmaaGreatDoorW.PrintWords Go.Proofs.YtfcjpkkglffnmaaGreatDoorW.PrintLast Go.Proofs.YtfcjpkkglffnmaaGreatDoorW.PrintMore
attribute [local go_sem] Vz V3 za0 za1 Vd Ve V4 V5
set_option linter.unusedVariables false
set_option linter.unusedSimpArgs false
def xk (w0 W : World) (g : Nat) (f0 : Int) (f1 : Int) (f2 : Int) (f3 : Int) (f4 : Int) (f5 : ByteArray) (f6 : ByteArray) (f7 : ByteArray) (f8 : ByteArray) (f9 : Int) : Prop := W.heap[g]? = some (.cells #[.int .i64 f0, .int .i64 f1, .int .i64 f2, .int .i64 f3, .int .i64 f4, .string f5, .string f6, .string f7, .string f8, .int .i64 f9] 44 (0, 0)) ∧ w0.heap.size ≤ g
theorem xk.grown {w0 W : World} {g : Nat} {f0 : Int} {f1 : Int} {f2 : Int} {f3 : Int} {f4 : Int} {f5 : ByteArray} {f6 : ByteArray} {f7 : ByteArray} {f8 : ByteArray} {f9 : Int} {W1 : World} {row : Option Nat} (h : xk w0 W g f0 f1 f2 f3 f4 f5 f6 f7 f8 f9) (hw : W.grownBy W1 row) (hne : some g ≠ row) : xk w0 W1 g f0 f1 f2 f3 f4 f5 f6 f7 f8 f9 := by
 obtain ⟨hb, hg⟩ := h;exact ⟨zby hb hw hne, hg⟩
theorem xk.kept {w0 W : World} {g : Nat} {f0 : Int} {f1 : Int} {f2 : Int} {f3 : Int} {f4 : Int} {f5 : ByteArray} {f6 : ByteArray} {f7 : ByteArray} {f8 : ByteArray} {f9 : Int} {W1 : World} {S : Nat → Prop} (h : xk w0 W g f0 f1 f2 f3 f4 f5 f6 f7 f8 f9) (hk : Kept W W1 S) (hne : ¬ S g) : xk w0 W1 g f0 f1 f2 f3 f4 f5 f6 f7 f8 f9 := by
 obtain ⟨hb, hg⟩ := h;exact ⟨zbb hb hk hne, hg⟩
theorem xk.below {w0 W : World} {g : Nat} {f0 : Int} {f1 : Int} {f2 : Int} {f3 : Int} {f4 : Int} {f5 : ByteArray} {f6 : ByteArray} {f7 : ByteArray} {f8 : ByteArray} {f9 : Int} {W1 : World} (h : xk w0 W g f0 f1 f2 f3 f4 f5 f6 f7 f8 f9) (hw : Below W.heap.size W W1) : xk w0 W1 g f0 f1 f2 f3 f4 f5 f6 f7 f8 f9 := h.grown (zgu hw none) (by simp)
theorem xk.alloc {w0 W : World} {g : Nat} {f0 : Int} {f1 : Int} {f2 : Int} {f3 : Int} {f4 : Int} {f5 : ByteArray} {f6 : ByteArray} {f7 : ByteArray} {f8 : ByteArray} {f9 : Int} (h : xk w0 W g f0 f1 f2 f3 f4 f5 f6 f7 f8 f9) (o : Obj) : xk w0 (W.alloc o) g f0 f1 f2 f3 f4 f5 f6 f7 f8 f9 := h.below (zh (Below.refl _ _) o)
theorem xk.drewN {w0 W : World} {g : Nat} {f0 : Int} {f1 : Int} {f2 : Int} {f3 : Int} {f4 : Int} {f5 : ByteArray} {f6 : ByteArray} {f7 : ByteArray} {f8 : ByteArray} {f9 : Int} (h : xk w0 W g f0 f1 f2 f3 f4 f5 f6 f7 f8 f9) (m : Nat) : xk w0 (W.drewN m) g f0 f1 f2 f3 f4 f5 f6 f7 f8 f9 := h
theorem xk.drew {w0 W : World} {g : Nat} {f0 : Int} {f1 : Int} {f2 : Int} {f3 : Int} {f4 : Int} {f5 : ByteArray} {f6 : ByteArray} {f7 : ByteArray} {f8 : ByteArray} {f9 : Int} (h : xk w0 W g f0 f1 f2 f3 f4 f5 f6 f7 f8 f9) : xk w0 W.drew g f0 f1 f2 f3 f4 f5 f6 f7 f8 f9 := h
theorem xk.at_ {w0 W : World} {g : Nat} {f0 : Int} {f1 : Int} {f2 : Int} {f3 : Int} {f4 : Int} {f5 : ByteArray} {f6 : ByteArray} {f7 : ByteArray} {f8 : ByteArray} {f9 : Int} {w' : World} {m : Nat} (hq : W.drewN m = w') (h : xk w0 W g f0 f1 f2 f3 f4 f5 f6 f7 f8 f9) : xk w0 w' g f0 f1 f2 f3 f4 f5 f6 f7 f8 f9 := by subst hq; exact xk.drewN h m
theorem xk.apart {w0 W : World} {g : Nat} {f0 : Int} {f1 : Int} {f2 : Int} {f3 : Int} {f4 : Int} {f5 : ByteArray} {f6 : ByteArray} {f7 : ByteArray} {f8 : ByteArray} {f9 : Int} {α : Type} {d : Kd α} {e : Nat} {base : Nat} {ok : Nat → Prop} {v : Value} {xs : List α} (h : xk w0 W g f0 f1 f2 f3 f4 f5 f6 f7 f8 f9) (ho : d.R e W base ok v xs) (ht : ∀ q, q ∈ e :: d.E → q ≠ 44) : d.R e W base (fun k => ok k ∧ k ≠ g) v xs := by
 obtain ⟨hb, hg⟩ := h;exact Kd.Zv ho hb ht
theorem xk.own_ne {w0 W : World} {g : Nat} {f0 : Int} {f1 : Int} {f2 : Int} {f3 : Int} {f4 : Int} {f5 : ByteArray} {f6 : ByteArray} {f7 : ByteArray} {f8 : ByteArray} {f9 : Int} {α : Type} {d : Kd α} {e : Nat} {base : Nat} {ok : Nat → Prop} {v : Value} {xs : List α} (h : xk w0 W g f0 f1 f2 f3 f4 f5 f6 f7 f8 f9) (ho : d.R e W base ok v xs) (ht : e ≠ 44) : some g ≠ v.ownBlock := by
 obtain ⟨hb, hg⟩ := h;exact Kd.R_ne ho hb ht
theorem xk.lt {w0 W : World} {g : Nat} {f0 : Int} {f1 : Int} {f2 : Int} {f3 : Int} {f4 : Int} {f5 : ByteArray} {f6 : ByteArray} {f7 : ByteArray} {f8 : ByteArray} {f9 : Int} (h : xk w0 W g f0 f1 f2 f3 f4 f5 f6 f7 f8 f9) : g < W.heap.size := by
 obtain ⟨hb, hg⟩ := h;exact Yp hb
theorem xk.ge {w0 W : World} {g : Nat} {f0 : Int} {f1 : Int} {f2 : Int} {f3 : Int} {f4 : Int} {f5 : ByteArray} {f6 : ByteArray} {f7 : ByteArray} {f8 : ByteArray} {f9 : Int} (h : xk w0 W g f0 f1 f2 f3 f4 f5 f6 f7 f8 f9) : w0.heap.size ≤ g := by
 obtain ⟨hb, hg⟩ := h;exact hg
theorem xk.far {w0 W : World} {g : Nat} {f0 : Int} {f1 : Int} {f2 : Int} {f3 : Int} {f4 : Int} {f5 : ByteArray} {f6 : ByteArray} {f7 : ByteArray} {f8 : ByteArray} {f9 : Int} {p : Addr} (h : xk w0 W g f0 f1 f2 f3 f4 f5 f6 f7 f8 f9) (hne : g ≠ p.block) (u : Value) : xk w0 (W.setCell p u) g f0 f1 f2 f3 f4 f5 f6 f7 f8 f9 := by
 obtain ⟨hb, hg⟩ := h;exact ⟨Zx hb hne u, hg⟩
theorem zdx {W : World} {g : Nat} {f0 : Int} {f1 : Int} {f2 : Int} {f3 : Int} {f4 : Int} {f5 : ByteArray} {f6 : ByteArray} {f7 : ByteArray} {f8 : ByteArray} {f9 : Int} (h : W.heap[g]? = some (.cells #[.int .i64 f0, .int .i64 f1, .int .i64 f2, .int .i64 f3, .int .i64 f4, .string f5, .string f6, .string f7, .string f8, .int .i64 f9] 44 (0, 0))) : W.cell? ⟨g, 0, none⟩ = some (.int .i64 f0) := (yc h 0).trans rfl
theorem xk.zew {w0 W : World} {g : Nat} {f0 : Int} {f1 : Int} {f2 : Int} {f3 : Int} {f4 : Int} {f5 : ByteArray} {f6 : ByteArray} {f7 : ByteArray} {f8 : ByteArray} {f9 : Int} (h : xk w0 W g f0 f1 f2 f3 f4 f5 f6 f7 f8 f9) (x : Int) : xk w0 (W.setCell ⟨g, 0, none⟩ (.int .i64 x)) g x f1 f2 f3 f4 f5 f6 f7 f8 f9 := by
 obtain ⟨hb, hg⟩ := h;exact ⟨by simpa using Xz hb 0 (.int .i64 x), hg⟩
theorem zdy {W : World} {g : Nat} {f0 : Int} {f1 : Int} {f2 : Int} {f3 : Int} {f4 : Int} {f5 : ByteArray} {f6 : ByteArray} {f7 : ByteArray} {f8 : ByteArray} {f9 : Int} (h : W.heap[g]? = some (.cells #[.int .i64 f0, .int .i64 f1, .int .i64 f2, .int .i64 f3, .int .i64 f4, .string f5, .string f6, .string f7, .string f8, .int .i64 f9] 44 (0, 0))) : W.cell? ⟨g, 1, none⟩ = some (.int .i64 f1) := (yc h 1).trans rfl
theorem xk.zey {w0 W : World} {g : Nat} {f0 : Int} {f1 : Int} {f2 : Int} {f3 : Int} {f4 : Int} {f5 : ByteArray} {f6 : ByteArray} {f7 : ByteArray} {f8 : ByteArray} {f9 : Int} (h : xk w0 W g f0 f1 f2 f3 f4 f5 f6 f7 f8 f9) (x : Int) : xk w0 (W.setCell ⟨g, 1, none⟩ (.int .i64 x)) g f0 x f2 f3 f4 f5 f6 f7 f8 f9 := by
 obtain ⟨hb, hg⟩ := h;exact ⟨by simpa using Xz hb 1 (.int .i64 x), hg⟩
theorem zd0 {W : World} {g : Nat} {f0 : Int} {f1 : Int} {f2 : Int} {f3 : Int} {f4 : Int} {f5 : ByteArray} {f6 : ByteArray} {f7 : ByteArray} {f8 : ByteArray} {f9 : Int} (h : W.heap[g]? = some (.cells #[.int .i64 f0, .int .i64 f1, .int .i64 f2, .int .i64 f3, .int .i64 f4, .string f5, .string f6, .string f7, .string f8, .int .i64 f9] 44 (0, 0))) : W.cell? ⟨g, 2, none⟩ = some (.int .i64 f2) := (yc h 2).trans rfl
theorem xk.zez {w0 W : World} {g : Nat} {f0 : Int} {f1 : Int} {f2 : Int} {f3 : Int} {f4 : Int} {f5 : ByteArray} {f6 : ByteArray} {f7 : ByteArray} {f8 : ByteArray} {f9 : Int} (h : xk w0 W g f0 f1 f2 f3 f4 f5 f6 f7 f8 f9) (x : Int) : xk w0 (W.setCell ⟨g, 2, none⟩ (.int .i64 x)) g f0 f1 x f3 f4 f5 f6 f7 f8 f9 := by
 obtain ⟨hb, hg⟩ := h;exact ⟨by simpa using Xz hb 2 (.int .i64 x), hg⟩
theorem zd1 {W : World} {g : Nat} {f0 : Int} {f1 : Int} {f2 : Int} {f3 : Int} {f4 : Int} {f5 : ByteArray} {f6 : ByteArray} {f7 : ByteArray} {f8 : ByteArray} {f9 : Int} (h : W.heap[g]? = some (.cells #[.int .i64 f0, .int .i64 f1, .int .i64 f2, .int .i64 f3, .int .i64 f4, .string f5, .string f6, .string f7, .string f8, .int .i64 f9] 44 (0, 0))) : W.cell? ⟨g, 3, none⟩ = some (.int .i64 f3) := (yc h 3).trans rfl
theorem xk.ze0 {w0 W : World} {g : Nat} {f0 : Int} {f1 : Int} {f2 : Int} {f3 : Int} {f4 : Int} {f5 : ByteArray} {f6 : ByteArray} {f7 : ByteArray} {f8 : ByteArray} {f9 : Int} (h : xk w0 W g f0 f1 f2 f3 f4 f5 f6 f7 f8 f9) (x : Int) : xk w0 (W.setCell ⟨g, 3, none⟩ (.int .i64 x)) g f0 f1 f2 x f4 f5 f6 f7 f8 f9 := by
 obtain ⟨hb, hg⟩ := h;exact ⟨by simpa using Xz hb 3 (.int .i64 x), hg⟩
theorem zd2 {W : World} {g : Nat} {f0 : Int} {f1 : Int} {f2 : Int} {f3 : Int} {f4 : Int} {f5 : ByteArray} {f6 : ByteArray} {f7 : ByteArray} {f8 : ByteArray} {f9 : Int} (h : W.heap[g]? = some (.cells #[.int .i64 f0, .int .i64 f1, .int .i64 f2, .int .i64 f3, .int .i64 f4, .string f5, .string f6, .string f7, .string f8, .int .i64 f9] 44 (0, 0))) : W.cell? ⟨g, 4, none⟩ = some (.int .i64 f4) := (yc h 4).trans rfl
theorem xk.ze1 {w0 W : World} {g : Nat} {f0 : Int} {f1 : Int} {f2 : Int} {f3 : Int} {f4 : Int} {f5 : ByteArray} {f6 : ByteArray} {f7 : ByteArray} {f8 : ByteArray} {f9 : Int} (h : xk w0 W g f0 f1 f2 f3 f4 f5 f6 f7 f8 f9) (x : Int) : xk w0 (W.setCell ⟨g, 4, none⟩ (.int .i64 x)) g f0 f1 f2 f3 x f5 f6 f7 f8 f9 := by
 obtain ⟨hb, hg⟩ := h;exact ⟨by simpa using Xz hb 4 (.int .i64 x), hg⟩
theorem zd3 {W : World} {g : Nat} {f0 : Int} {f1 : Int} {f2 : Int} {f3 : Int} {f4 : Int} {f5 : ByteArray} {f6 : ByteArray} {f7 : ByteArray} {f8 : ByteArray} {f9 : Int} (h : W.heap[g]? = some (.cells #[.int .i64 f0, .int .i64 f1, .int .i64 f2, .int .i64 f3, .int .i64 f4, .string f5, .string f6, .string f7, .string f8, .int .i64 f9] 44 (0, 0))) : W.cell? ⟨g, 5, none⟩ = some (.string f5) := (yc h 5).trans rfl
theorem xk.ze2 {w0 W : World} {g : Nat} {f0 : Int} {f1 : Int} {f2 : Int} {f3 : Int} {f4 : Int} {f5 : ByteArray} {f6 : ByteArray} {f7 : ByteArray} {f8 : ByteArray} {f9 : Int} (h : xk w0 W g f0 f1 f2 f3 f4 f5 f6 f7 f8 f9) (x : ByteArray) : xk w0 (W.setCell ⟨g, 5, none⟩ (.string x)) g f0 f1 f2 f3 f4 x f6 f7 f8 f9 := by
 obtain ⟨hb, hg⟩ := h;exact ⟨by simpa using Xz hb 5 (.string x), hg⟩
theorem zd4 {W : World} {g : Nat} {f0 : Int} {f1 : Int} {f2 : Int} {f3 : Int} {f4 : Int} {f5 : ByteArray} {f6 : ByteArray} {f7 : ByteArray} {f8 : ByteArray} {f9 : Int} (h : W.heap[g]? = some (.cells #[.int .i64 f0, .int .i64 f1, .int .i64 f2, .int .i64 f3, .int .i64 f4, .string f5, .string f6, .string f7, .string f8, .int .i64 f9] 44 (0, 0))) : W.cell? ⟨g, 6, none⟩ = some (.string f6) := (yc h 6).trans rfl
theorem xk.ze3 {w0 W : World} {g : Nat} {f0 : Int} {f1 : Int} {f2 : Int} {f3 : Int} {f4 : Int} {f5 : ByteArray} {f6 : ByteArray} {f7 : ByteArray} {f8 : ByteArray} {f9 : Int} (h : xk w0 W g f0 f1 f2 f3 f4 f5 f6 f7 f8 f9) (x : ByteArray) : xk w0 (W.setCell ⟨g, 6, none⟩ (.string x)) g f0 f1 f2 f3 f4 f5 x f7 f8 f9 := by
 obtain ⟨hb, hg⟩ := h;exact ⟨by simpa using Xz hb 6 (.string x), hg⟩
theorem zd5 {W : World} {g : Nat} {f0 : Int} {f1 : Int} {f2 : Int} {f3 : Int} {f4 : Int} {f5 : ByteArray} {f6 : ByteArray} {f7 : ByteArray} {f8 : ByteArray} {f9 : Int} (h : W.heap[g]? = some (.cells #[.int .i64 f0, .int .i64 f1, .int .i64 f2, .int .i64 f3, .int .i64 f4, .string f5, .string f6, .string f7, .string f8, .int .i64 f9] 44 (0, 0))) : W.cell? ⟨g, 7, none⟩ = some (.string f7) := (yc h 7).trans rfl
theorem xk.ze4 {w0 W : World} {g : Nat} {f0 : Int} {f1 : Int} {f2 : Int} {f3 : Int} {f4 : Int} {f5 : ByteArray} {f6 : ByteArray} {f7 : ByteArray} {f8 : ByteArray} {f9 : Int} (h : xk w0 W g f0 f1 f2 f3 f4 f5 f6 f7 f8 f9) (x : ByteArray) : xk w0 (W.setCell ⟨g, 7, none⟩ (.string x)) g f0 f1 f2 f3 f4 f5 f6 x f8 f9 := by
 obtain ⟨hb, hg⟩ := h;exact ⟨by simpa using Xz hb 7 (.string x), hg⟩
theorem zd6 {W : World} {g : Nat} {f0 : Int} {f1 : Int} {f2 : Int} {f3 : Int} {f4 : Int} {f5 : ByteArray} {f6 : ByteArray} {f7 : ByteArray} {f8 : ByteArray} {f9 : Int} (h : W.heap[g]? = some (.cells #[.int .i64 f0, .int .i64 f1, .int .i64 f2, .int .i64 f3, .int .i64 f4, .string f5, .string f6, .string f7, .string f8, .int .i64 f9] 44 (0, 0))) : W.cell? ⟨g, 8, none⟩ = some (.string f8) := (yc h 8).trans rfl
theorem xk.ze5 {w0 W : World} {g : Nat} {f0 : Int} {f1 : Int} {f2 : Int} {f3 : Int} {f4 : Int} {f5 : ByteArray} {f6 : ByteArray} {f7 : ByteArray} {f8 : ByteArray} {f9 : Int} (h : xk w0 W g f0 f1 f2 f3 f4 f5 f6 f7 f8 f9) (x : ByteArray) : xk w0 (W.setCell ⟨g, 8, none⟩ (.string x)) g f0 f1 f2 f3 f4 f5 f6 f7 x f9 := by
 obtain ⟨hb, hg⟩ := h;exact ⟨by simpa using Xz hb 8 (.string x), hg⟩
theorem zd7 {W : World} {g : Nat} {f0 : Int} {f1 : Int} {f2 : Int} {f3 : Int} {f4 : Int} {f5 : ByteArray} {f6 : ByteArray} {f7 : ByteArray} {f8 : ByteArray} {f9 : Int} (h : W.heap[g]? = some (.cells #[.int .i64 f0, .int .i64 f1, .int .i64 f2, .int .i64 f3, .int .i64 f4, .string f5, .string f6, .string f7, .string f8, .int .i64 f9] 44 (0, 0))) : W.cell? ⟨g, 9, none⟩ = some (.int .i64 f9) := (yc h 9).trans rfl
theorem xk.ze6 {w0 W : World} {g : Nat} {f0 : Int} {f1 : Int} {f2 : Int} {f3 : Int} {f4 : Int} {f5 : ByteArray} {f6 : ByteArray} {f7 : ByteArray} {f8 : ByteArray} {f9 : Int} (h : xk w0 W g f0 f1 f2 f3 f4 f5 f6 f7 f8 f9) (x : Int) : xk w0 (W.setCell ⟨g, 9, none⟩ (.int .i64 x)) g f0 f1 f2 f3 f4 f5 f6 f7 f8 x := by
 obtain ⟨hb, hg⟩ := h;exact ⟨by simpa using Xz hb 9 (.int .i64 x), hg⟩
theorem xk.new (w0 W : World) (f0 : Int) (f1 : Int) (f2 : Int) (f3 : Int) (f4 : Int) (f5 : ByteArray) (f6 : ByteArray) (f7 : ByteArray) (f8 : ByteArray) (f9 : Int) (hB : Below w0.heap.size w0 W) : xk w0 (W.alloc (.cells #[.int .i64 f0, .int .i64 f1, .int .i64 f2, .int .i64 f3, .int .i64 f4, .string f5, .string f6, .string f7, .string f8, .int .i64 f9] 44)) W.heap.size f0 f1 f2 f3 f4 f5 f6 f7 f8 f9 := ⟨by simpa using heap_alloc_new W _, hB.size⟩
mutual
def xx.j0 : Nat → Bool → Int → Bool → Int → Int → Int → Int → Int → ByteArray → ByteArray → ByteArray → ByteArray → Int → Int → Int → Int → Int → Int → ByteArray → ByteArray → ByteArray → ByteArray → Int → Option (Bool × Int × Int × Int × Int × Int × ByteArray × ByteArray × ByteArray × ByteArray × Int)
 | 0, _, _, _, _, _, _, _, _, _, _, _, _, _, _, _, _, _, _, _, _, _, _, _ => none
 | k + 1, x5, x7, x8, x2000, x2001, x2002, x2003, x2004, x2005, x2006, x2007, x2008, x2009, x230000, x230001, x230002, x230003, x230004, x230005, x230006, x230007, x230008, x230009 => if x8 = true then ((xh.f k x230005).bind fun t230 => (some (t230, x2000, x2001, x2002, x2003, x2004, x2005, x2006, x2007, x2008, x2009))) else (if x7 = 3 then (xx.j1 k x5 x7 (x7 == 3) x2000 x2001 x2002 x2003 x2004 x2005 x2006 x2007 x2008 x2009 x230000 x230001 x230002 x230003 x230004 x230005 x230006 x230007 x230008 x230009) else (xx.j1 k x5 x7 (x7 == 5) x2000 x2001 x2002 x2003 x2004 x2005 x2006 x2007 x2008 x2009 x230000 x230001 x230002 x230003 x230004 x230005 x230006 x230007 x230008 x230009))
def xx.j1 : Nat → Bool → Int → Bool → Int → Int → Int → Int → Int → ByteArray → ByteArray → ByteArray → ByteArray → Int → Int → Int → Int → Int → Int → ByteArray → ByteArray → ByteArray → ByteArray → Int → Option (Bool × Int × Int × Int × Int × Int × ByteArray × ByteArray × ByteArray × ByteArray × Int)
 | 0, _, _, _, _, _, _, _, _, _, _, _, _, _, _, _, _, _, _, _, _, _, _, _ => none
 | k + 1, x5, x7, x14, x2000, x2001, x2002, x2003, x2004, x2005, x2006, x2007, x2008, x2009, x230000, x230001, x230002, x230003, x230004, x230005, x230006, x230007, x230008, x230009 => if x14 = true then ((xh.f k x230006).bind fun t231 => (some (t231, x2000, x2001, x2002, x2003, x2004, x2005, x230006, x2007, x2008, x2009))) else (if x7 = 6 then ((xh.f k x230006).bind fun t232 => (if t232 = true then ((xh.f k x230007).bind fun t233 => (some (t233, x2000, x2001, x2002, x2003, x2004, x2005, x230006, x230007, x2008, x2009))) else (some (false, x2000, x2001, x2002, x2003, x2004, x2005, x230006, x230007, x2008, x2009)))) else (if x7 = 10 then ((xh.f k x230005).bind fun t234 => (if t234 = true then ((xh.f k x230006).bind fun t235 => (if t235 = true then ((xh.f k x230007).bind fun t236 => (if t236 = true then ((xh.f k x230008).bind fun t237 => (some (t237, x2000, x2001, x2002, x2003, x2004, x2005, x230006, x230007, x230008, x2009))) else (some (false, x2000, x2001, x2002, x2003, x2004, x2005, x230006, x230007, x230008, x2009)))) else (some (false, x2000, x2001, x2002, x2003, x2004, x2005, x230006, x230007, x230008, x2009)))) else (some (false, x2000, x2001, x2002, x2003, x2004, x2005, x230006, x230007, x230008, x2009)))) else (some (x5, x2000, x2001, x2002, x2003, x2004, x2005, x2006, x2007, x2008, x2009))))
end
def xx.f (k : Nat) (Zb : Int) (xy : Int) (vz : Int) (Zl : Int) (Za : Int) (Zh : ByteArray) (Zf : ByteArray) (Zi : ByteArray) (Zk : ByteArray) (yx : Int) (s1_0 : Int) (s1_1 : Int) (s1_2 : Int) (s1_3 : Int) (s1_4 : Int) (s1_5 : ByteArray) (s1_6 : ByteArray) (s1_7 : ByteArray) (s1_8 : ByteArray) (s1_9 : Int) : Option (Bool × Int × Int × Int × Int × Int × ByteArray × ByteArray × ByteArray × ByteArray × Int) := if Zb = 0 then (xx.j0 k true Zb (Zb == 0) s1_0 s1_1 s1_2 s1_3 s1_4 s1_5 s1_6 s1_7 s1_8 s1_9 Zb xy vz Zl Za Zh Zf Zi Zk yx) else (xx.j0 k true Zb (Zb == 9) s1_0 s1_1 s1_2 s1_3 s1_4 s1_5 s1_6 s1_7 s1_8 s1_9 Zb xy vz Zl Za Zh Zf Zi Zk yx)
end Go.Proofs.YtfcjpkkglffnmaaGreatDoor.H
