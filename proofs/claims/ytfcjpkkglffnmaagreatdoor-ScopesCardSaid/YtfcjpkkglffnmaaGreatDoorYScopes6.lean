/- Several texts in one: contracts of functions of the program, and what they lean on. In part written by a program of this session over the kit's print, in part by hand. -/
import Derived.Test.YtfcjpkkglffnmaaGreatDoorYScopes2
import Derived.Test.YtfcjpkkglffnmaaGreatDoorYScopes5
import Derived.Test.YtfcjpkkglffnmaaGreatDoorYScopes4
import Derived.BigQuiet
import Derived.BigRegion
import Derived.ChangeAlike
import Derived.Deep.QuietTactic
import Derived.Deep.RegionHeld3
import Derived.RegionTactic
namespace Go.Proofs.YtfcjpkkglffnmaaGreatDoor.H
open Go.RowKit Go.Proofs.YtfcjpkkglffnmaaGreatDoorW.PrintWords Go.Proofs.YtfcjpkkglffnmaaGreatDoorW.PrintLast Go.Proofs.YtfcjpkkglffnmaaGreatDoorW.PrintMore
attribute [local go_sem] Vz V3 za0 za1 Vd Ve V4 V5
set_option linter.unusedVariables false
set_option linter.unusedSimpArgs false
attribute [local go_sem high] eqA42
def Z8.l0 : Nat → List (S42) → List (S42) → Int → Option (Bool)
 | 0, _, _, _ => none
 | k + 1, x0, x1, x5 => if x5 < (x0.length : Int) then (if 0 ≤ x5 then (if x5 < (x1.length : Int) then (if (!((((Zp x0 x5).f0).toList) == (((Zp x1 x5).f0).toList)) || (!(((Zp x0 x5).f1) == ((Zp x1 x5).f1)) || (!(((Zp x0 x5).f2) == ((Zp x1 x5).f2))))) = true then (some false) else (Z8.l0 k x0 x1 (wrap64 (x5 + 1)))) else (none)) else (none)) else (some true)
def Z8.f (k : Nat) (l0 : List (S42)) (l1 : List (S42)) : Option (Bool) := if (l0.length : Int) = (l1.length : Int) then (Z8.l0 k l0 l1 0) else (some false)
set_option maxHeartbeats 8000000 in
set_option maxRecDepth 100000 in
theorem Z8.calls (k : Nat) (A0 : Option Addr) (c0 : Nat) (l0 : List (S42)) (A1 : Option Addr) (c1 : Nat) (l1 : List (S42)) (r : Bool) (w : World) (hr0 : Kd.C k42 w A0 l0.length l0) (hc0 : l0.length ≤ c0) (hr1 : Kd.C k42 w A1 l1.length l1) (hc1 : l1.length ≤ c1) (h : Z8.f k l0 l1 = some r) :
  Calls Tryz.prog 24 #[.slice A0 l0.length c0, .slice A1 l1.length c1] w fun e w' => e = .returned (.bool r) ∧ xm w w' := by
 have hu42 := Tryz.underlying42;have HR0 := zf.mk hr0;have HC0 := zf.mk hc0;clear hr0 hc0;have HR1 := zf.mk hr1;have HC1 := zf.mk hc1;clear hr1 hc1;have H : (if (l0.length : Int) = (l1.length : Int) then (Z8.l0 k l0 l1 0) else (some false)) = some r := h;clear h;by_cases c3 : (l0.length : Int) = (l1.length : Int)
 ·
  rw [if_pos c3] at H;have zbm : ((l0.length : Int) == (l1.length : Int)) = true := beq_iff_eq.mpr c3;have zga : ((l0.length : Int) != (l1.length : Int)) = false := bne_eq_false_iff_eq.mpr c3;have c3b2 : (l0.length == l1.length) = true := by first | simpa using c3 | (simp at c3 ⊢; omega)
  clear c3;have H' := zf.mk H;clear H;go_enter Tryz.func24, Tryz.ntmps24;go_wp2
  repeat (go_quiet (fail); try go_wp2)
  go_loopg [5] k (fun kq v5 w' => ∃ (x5_1 : Int), v5 = .int .i64 x5_1 ∧ zf (Z8.l0 kq l0 l1 x5_1 = some r) ∧ zf (kq ≤ k) ∧ xm w w')
  case atStart => exact ⟨(0), (by first | rfl | (simp; done) | (simp [*]; done)), H', ⟨Nat.le_refl _⟩, by repeat (first | exact xm.refl _ | apply xm.step)⟩
  case round =>
   clear H';try clear c1
   try clear c2
   try clear p2
   try clear c3
   try clear zbm
   try clear zga
   try clear c3b2
   obtain ⟨x5_1, rfl, HA, HK1, ⟨m1, rfl⟩⟩ := hrel;cases gk with
   | zero => exact absurd HA.out (by simp [Z8.l0])
   | succ k1 =>
    have H := HA.out;clear HA;simp only [Z8.l0] at H;by_cases c4 : x5_1 < (l0.length : Int)
    ·
     rw [if_pos c4] at H;have zbn : decide (x5_1 < (l0.length : Int)) = true := decide_eq_true c4;clear c4;by_cases c5 : 0 ≤ x5_1
     ·
      rw [if_pos c5] at H;have c5b0 : decide (0 ≤ x5_1) = true := decide_eq_true c5;clear c5;by_cases c6 : x5_1 < (l1.length : Int)
      ·
       rw [if_pos c6] at H;have zic : decide (x5_1 < (l1.length : Int)) = true := decide_eq_true c6;clear c6;by_cases c7 : (!((((Zp l0 x5_1).f0).toList) == (((Zp l1 x5_1).f0).toList)) || (!(((Zp l0 x5_1).f1) == ((Zp l1 x5_1).f1)) || (!(((Zp l0 x5_1).f2) == ((Zp l1 x5_1).f2))))) = true
       ·
        rw [if_pos c7] at H;have zdt : (!((((Zp l0 x5_1).f0).toList) == (((Zp l1 x5_1).f0).toList)) || (!(((Zp l0 x5_1).f1) == ((Zp l1 x5_1).f1)) || (!(((Zp l0 x5_1).f2) == ((Zp l1 x5_1).f2))))) = true := c7;clear c7;obtain rfl := Option.some.inj H;have p135 : 0 ≤ (x5_1 : Int) := of_decide_eq_true (by first | (with_reducible assumption) | assumption);have q135 : x5_1 < (l0.length : Int) := of_decide_eq_true (by first | (with_reducible assumption) | assumption);obtain ⟨ad135, e135, hx135_0, hx135_1, hx135_2⟩ := za5 HR0.out x5_1 p135 q135;cases e135;replace p135 := eq_true p135;replace q135 := eq_true q135;have p136 : 0 ≤ (x5_1 : Int) := of_decide_eq_true (by first | (with_reducible assumption) | assumption);have q136 : x5_1 < (l1.length : Int) := of_decide_eq_true (by first | (with_reducible assumption) | assumption);obtain ⟨ad136, e136, hx136_0, hx136_1, hx136_2⟩ := za5 HR1.out x5_1 p136 q136;cases e136;replace p136 := eq_true p136;replace q136 := eq_true q136;go_wp2
        repeat (go_quiet (fail); try go_wp2)
        go_ret;exact ⟨by first | rfl | (simp; done) | (simp [*]; done), by repeat (first | exact xm.refl _ | apply xm.step)⟩
       ·
        rw [if_neg c7] at H;have zdt : (!((((Zp l0 x5_1).f0).toList) == (((Zp l1 x5_1).f0).toList)) || (!(((Zp l0 x5_1).f1) == ((Zp l1 x5_1).f1)) || (!(((Zp l0 x5_1).f2) == ((Zp l1 x5_1).f2))))) = false := by simpa using c7
        clear c7;have H' := zf.mk H;clear H;have p135 : 0 ≤ (x5_1 : Int) := of_decide_eq_true (by first | (with_reducible assumption) | assumption);have q135 : x5_1 < (l0.length : Int) := of_decide_eq_true (by first | (with_reducible assumption) | assumption);obtain ⟨ad135, e135, hx135_0, hx135_1, hx135_2⟩ := za5 HR0.out x5_1 p135 q135;cases e135;replace p135 := eq_true p135;replace q135 := eq_true q135;have p136 : 0 ≤ (x5_1 : Int) := of_decide_eq_true (by first | (with_reducible assumption) | assumption);have q136 : x5_1 < (l1.length : Int) := of_decide_eq_true (by first | (with_reducible assumption) | assumption);obtain ⟨ad136, e136, hx136_0, hx136_1, hx136_2⟩ := za5 HR1.out x5_1 p136 q136;cases e136;replace p136 := eq_true p136;replace q136 := eq_true q136;go_wp2
        repeat (go_quiet (fail); try go_wp2)
        go_roundg k1
        case measure => have := HK1.out; omega
        case rel => exact ⟨(wrap64 (x5_1 + 1)), (by first | rfl | (simp; done) | (simp [*]; done)), H', ⟨by have := HK1.out; omega⟩, by repeat (first | exact xm.refl _ | apply xm.step)⟩
      ·
       rw [if_neg c6] at H;exact absurd H (by simp)
     ·
      rw [if_neg c5] at H;exact absurd H (by simp)
    ·
     rw [if_neg c4] at H;have zbn : decide (x5_1 < (l0.length : Int)) = false := decide_eq_false c4;clear c4;obtain rfl := Option.some.inj H;go_wp2
     repeat (go_quiet (fail); try go_wp2)
     go_ret;exact ⟨by first | rfl | (simp; done) | (simp [*]; done), by repeat (first | exact xm.refl _ | apply xm.step)⟩
 ·
  rw [if_neg c3] at H;have zbm : ((l0.length : Int) == (l1.length : Int)) = false := beq_eq_false_iff_ne.mpr c3;have zga : ((l0.length : Int) != (l1.length : Int)) = true := bne_iff_ne.mpr c3;have c3b2 : (l0.length == l1.length) = false := by first | simpa using c3 | (simp at c3 ⊢; omega)
  obtain rfl := Option.some.inj H;go_enter Tryz.func24, Tryz.ntmps24;go_wp2
  repeat (go_quiet (fail); try go_wp2)
  go_ret;exact ⟨by first | rfl | (simp; done) | (simp [*]; done), by repeat (first | exact xm.refl _ | apply xm.step)⟩
theorem zhv (l : List S42) (hl : l.length ≤ 1000000000000000) : ∀ (d i k : Nat), l.length - i = d → i ≤ l.length → d < k → Z8.l0 k l l (i : Int) = some true := by
 intro d;induction d with
 | zero =>
  intro i k hd hi hk;obtain ⟨k, rfl⟩ : ∃ n, k = n + 1 := ⟨k - 1, by omega⟩;simp only [Z8.l0];rw [if_neg (by omega)]
 | succ d ih =>
  intro i k hd hi hk;obtain ⟨k, rfl⟩ : ∃ n, k = n + 1 := ⟨k - 1, by omega⟩;simp only [Z8.l0];rw [if_pos (by omega), if_pos (by omega), if_pos (by omega)];simp only [beq_self_eq_true, Bool.not_true, Bool.or_false, Bool.false_eq_true, if_false];rw [wrapS (by omega) (by omega), show ((i : Int) + 1) = ((i + 1 : Nat) : Int) from by omega];exact ih (i + 1) k (by omega) (by omega) (by omega)
theorem zhw (l : List S42) (k : Nat) (hk : l.length < k) (hl : l.length ≤ 1000000000000000) : Z8.f k l l = some true := by
 unfold Z8.f;rw [if_pos rfl];exact zhv l hl l.length 0 k rfl (Nat.zero_le _) hk
theorem nm_size (s : ByteArray) (h : nm s.data.toList = true) : s.size ≤ 16 := by
 have e : s.size = s.data.toList.length := by rw [Array.length_toList]; rfl
 rw [e];unfold nm at h;split at h
 ·
  cases h
 ·
  rename_i c r hcr
  simp only [Bool.and_eq_true, decide_eq_true_eq] at h;rw [hcr, List.length_cons];omega
theorem zhb (os : List S42) (h : opsMayS os = true) : os.length ≤ 4 ∧ (os.all fun o => decide (o.f0.size ≤ 1000)) = true := by
 simp only [opsMayS, Bool.and_eq_true, decide_eq_true_eq, List.all_eq_true] at h;refine ⟨h.1, List.all_eq_true.2 fun o ho => ?_⟩;have h2 := h.2 o ho;simp only [opMayS, Bool.and_eq_true] at h2;have := nm_size o.f0 h2.1;exact decide_eq_true (by omega)
theorem zfa (l : List S44) (named : Bool) (h : shapedS l named = true) : 1 ≤ l.length ∧ l.length ≤ 512 ∧ (∀ x ∈ l, mayS x named = true) ∧ beginS l ((l.length : Int) - 1) = 0 := by
 simp only [shapedS, Bool.and_eq_true, decide_eq_true_eq, List.all_eq_true, beq_iff_eq] at h;exact ⟨h.1, h.2.1, h.2.2.1, h.2.2.2⟩
theorem zo3 (os : List S42) (l : List S44) (k : Nat) (hk : 2200 ≤ k) : ∃ r1 r2 r3 r4, Zy.f k os l = some (r1, r2, r3, r4) ∧
  ((treeMayS os l = false ∧ r4 = 600 ∧ r1 = [] ∧ r2 = [] ∧ r3 = 0) ∨ (treeMayS os l = true ∧ (r4 = 601 ∨ r4 = 602) ∧ r1 = [] ∧ r2 = [] ∧ 0 ≤ r3) ∨
   (treeMayS os l = true ∧ twiceGo [] os = false ∧ r4 = 0 ∧ r1 = os ∧ r3 = 0 ∧ r2.length = l.length ∧ Done l r2 0 l.length ∧ ∀ kk, l.length ≤ kk → within.f kk (os.length : Int) r2 ((l.length : Int) - 1) 0 = some true)) := by
 rw [res_Q k (by omega), resQ];cases ht : treeMayS os l
 ·
  exact ⟨_, _, _, _, rfl, .inl ⟨rfl, rfl, rfl, rfl, rfl⟩⟩
 ·
  have ht2 := ht;simp only [treeMayS, Bool.and_eq_true] at ht2;obtain ⟨h4, hsz⟩ := zhb os ht2.1;obtain ⟨h1, h512, hall, hb⟩ := zfa l true ht2.2;rw [if_pos rfl, if_pos ⟨h4, h1, h512, hsz⟩];cases htw : twiceGo [] os
  ·
   rw [if_neg (by simp)];have el : ((l.length : Int) - 1) = ((l.length - 1 : Nat) : Int) := by omega
   rw [el] at hb ⊢;obtain ⟨r, ns', e, ⟨d1, d2, d3, d4⟩, w⟩ := zjn l os hall h512 h4 (l.length - 1) (l.length - 1) k l [] 0 rfl (by omega) hb rfl (fun _ _ _ => rfl) (by simp; omega) (by omega);rw [e, Option.bind_some];rcases r with _ | ⟨ea, ec⟩
   ·
    have d := d3 rfl;rw [show l.length - 1 + 1 = l.length by omega] at d;refine ⟨_, _, _, _, rfl, .inr (.inr ⟨rfl, rfl, rfl, rfl, rfl, d1, d, fun kk hkk => ?_⟩)⟩;exact w rfl kk (by omega)
   ·
    obtain ⟨he, hc⟩ := d4 ea ec rfl;have hc0 : ec ≠ 0 := by omega
    show ∃ r1 r2 r3 r4, (if ec = 0 then none else some ([], [], ea, ec)) = some (r1, r2, r3, r4) ∧ _;rw [if_neg hc0];exact ⟨_, _, _, _, rfl, .inr (.inl ⟨rfl, hc, rfl, rfl, he⟩)⟩
  ·
   rw [if_pos rfl];exact ⟨_, _, _, _, rfl, .inr (.inl ⟨rfl, .inr rfl, rfl, rfl, Int.le_refl _⟩)⟩
def Vm.f (l0 : List ByteArray) (l1 : List ByteArray) : Option (List ByteArray) := (some (([] : List ByteArray) : List ByteArray)).bind fun zlq => (if zlq.length + l0.length < 8796093022208 then ((some (zlq ++ l0 : List ByteArray)).bind fun zir => (if zir.length + l1.length < 8796093022208 then (some (zir ++ l1)) else (none))) else (none))
set_option maxHeartbeats 8000000 in
set_option maxRecDepth 100000 in
theorem Vm.calls (A0 : Option Addr) (c0 : Nat) (l0 : List ByteArray) (A1 : Option Addr) (c1 : Nat) (l1 : List ByteArray) (r : List ByteArray) (w : World) (hr0 : Kd.C Kd.string w A0 l0.length l0) (hc0 : l0.length ≤ c0) (hr1 : Kd.C Kd.string w A1 l1.length l1) (hc1 : l1.length ≤ c1) (h : Vm.f l0 l1 = some r) :
  Calls Tryz.prog 47 #[.slice A0 l0.length c0, .slice A1 l1.length c1] w fun e w' => ∃ v0_ : Value, e = .returned (v0_) ∧ Kd.R Kd.string 9 w' w.heap.size (fun _ => True) v0_ r ∧ Below w.heap.size w w' := by
 have HR0 := zf.mk hr0;have HC0 := zf.mk hc0;clear hr0 hc0;have HR1 := zf.mk hr1;have HC1 := zf.mk hc1;clear hr1 hc1;have HB := zf.mk (Below.refl w.heap.size w);have H : ((some (([] : List ByteArray) : List ByteArray)).bind fun zlq => (if zlq.length + l0.length < 8796093022208 then ((some (zlq ++ l0 : List ByteArray)).bind fun zir => (if zir.length + l1.length < 8796093022208 then (some (zir ++ l1)) else (none))) else (none))) = some r := h;clear h;obtain ⟨zlq, hy209⟩ : ∃ y_ : List ByteArray, y_ = (([] : List ByteArray)) := ⟨_, rfl⟩;replace H : (if zlq.length + l0.length < 8796093022208 then ((some (zlq ++ l0 : List ByteArray)).bind fun zir => (if zir.length + l1.length < 8796093022208 then (some (zir ++ l1)) else (none))) else (none)) = some r := by first | (rw [hy209]; with_reducible exact H) | (have H2_ := (Option.bind_some _ _).symm.trans H; rw [hy209]; with_reducible exact H2_) | (have H2_ := (Option.bind_some _ _).symm.trans H; with_reducible exact H2_) | with_reducible exact H | (rw [hy209]; exact H) | exact H
 have Ny209 := zf.mk hy209;clear hy209;by_cases c3 : zlq.length + l0.length < 8796093022208
 ·
  rw [if_pos c3] at H;have LMc3 := zf.mk c3;clear c3;obtain ⟨zir, hy212⟩ : ∃ y_ : List ByteArray, y_ = (zlq ++ l0) := ⟨_, rfl⟩;replace H : (if zir.length + l1.length < 8796093022208 then (some (zir ++ l1)) else (none)) = some r := by first | (rw [hy212]; with_reducible exact H) | (have H2_ := (Option.bind_some _ _).symm.trans H; rw [hy212]; with_reducible exact H2_) | (have H2_ := (Option.bind_some _ _).symm.trans H; with_reducible exact H2_) | with_reducible exact H | (rw [hy212]; exact H) | exact H
  have Ny212 := zf.mk hy212;clear hy212;by_cases c4 : zir.length + l1.length < 8796093022208
  ·
   rw [if_pos c4] at H;have LMc4 := zf.mk c4;clear c4;obtain ⟨y215, hy215⟩ : ∃ y_ : List ByteArray, y_ = (zir ++ l1) := ⟨_, rfl⟩;replace H : (some y215) = some r := by first | (rw [hy215]; with_reducible exact H) | (have H2_ := (Option.bind_some _ _).symm.trans H; rw [hy215]; with_reducible exact H2_) | (have H2_ := (Option.bind_some _ _).symm.trans H; with_reducible exact H2_) | with_reducible exact H | (rw [hy215]; exact H) | exact H
   have Ny215 := zf.mk hy215;clear hy215;obtain rfl := Option.some.inj H;go_enter Tryz.func47, Tryz.ntmps47;go_wp2_with (first | ((with_reducible refine Yx (N := 6) rfl ?_); refine Kd.zgq Kd.string _ 9 ?hg (N := 6) ?hd (xs := ([] : List ByteArray)) (inner := []) (ok := fun _ => True) (okp := fun _ => True) ?hr ?hp (fun _ hk => hk) trivial (Below.refl _ _) (Nat.le_refl _) (by simp) ?_; (case hd => rfl); (case hg => rfl); (case hr => first | (go_simp; done) | (go_simp; rfl)); (case hp => exact (Reps.none _ _)); intro v210 w5 ho6 hb hg_ hnew_; clear hg_ hnew_; (first | rw [← Ny209.out] at ho6 | (simp only [Int.reduceToNat] at ho6; rw [← Ny209.out] at ho6)); have n0_ := zf.mk (Kd.X0 ho6 (xn (by repeat (first | (with_reducible first | exact HB.out | apply zh | apply zg | apply zk) | exact HB.out)))); have n1_ := zf.mk (Zc (by repeat (first | (with_reducible first | exact HB.out | apply zh | apply zg | apply zk) | exact HB.out)) hb); clear HB; have HO211 := n0_; have HB := n1_; clear n0_ n1_; clear hb ho6) | ((with_reducible refine zaq (b := .append) (xs := #[.tmp 6, .tmp 7]) rfl ?_); at_builtin; refine Kd.zac Kd.string (w0 := w) w.heap.size rfl (.tmp 6) (.tmp 7) 71 9 (.string ⟨#[]⟩) 16 rfl Tryz.underlying71 info9 rfl (by decide) (by omega) v210 zlq l0 _ _ _ (fun _ => True) (fun _ => False) rfl rfl ?aO ?aR (fun _ _ h => h) (fun _ h => h.elim) ?aF ?aB ?aS ?aL ?_; (case aR => repeat (first | exact (Kd.Zq HR0.out HB.out) | (with_reducible refine Kd.Yg ?_ _) | (with_reducible refine Kd.Ym ?_ _) | (with_reducible refine Kd.Yv ?_))); (case aB => exact (by repeat (first | (with_reducible first | exact HB.out | apply zh | apply zg | apply zk) | exact HB.out))); (case aF => exact (fun _ _ => trivial)); (case aO => exact (by (with_reducible repeat (first | apply Kd.yf | apply Kd.yj | apply Kd.yu)); exact HO211.out)); (case aS => exact (xn (by repeat (first | (with_reducible first | exact HB.out | apply zh | apply zg | apply zk) | exact HB.out)))); (case aL => have := LMc3.out; omega); intro v213 w7 ho hb hg hat; rw [← Ny212.out] at ho; have n0_ := zf.mk (hb); have n1_ := zf.mk (ho); clear HB; clear HO211; have HB := n0_; have HO214 := n1_; clear n0_ n1_; clear ho hb hg hat) | ((with_reducible refine zaq (b := .append) (xs := #[.tmp 9, .tmp 10]) rfl ?_); at_builtin; refine Kd.zac Kd.string (w0 := w) w.heap.size rfl (.tmp 9) (.tmp 10) 71 9 (.string ⟨#[]⟩) 16 rfl Tryz.underlying71 info9 rfl (by decide) (by omega) v213 zir l1 _ _ _ (fun _ => True) (fun _ => False) rfl rfl ?aO ?aR (fun _ _ h => h) (fun _ h => h.elim) ?aF ?aB ?aS ?aL ?_; (case aR => repeat (first | exact (Kd.Zq HR1.out HB.out) | (with_reducible refine Kd.Yg ?_ _) | (with_reducible refine Kd.Ym ?_ _) | (with_reducible refine Kd.Yv ?_))); (case aB => exact (by repeat (first | (with_reducible first | exact HB.out | apply zh | apply zg | apply zk) | exact HB.out))); (case aF => exact (fun _ _ => trivial)); (case aO => exact (by (with_reducible repeat (first | apply Kd.yf | apply Kd.yj | apply Kd.yu)); exact HO214.out)); (case aS => exact (xn (by repeat (first | (with_reducible first | exact HB.out | apply zh | apply zg | apply zk) | exact HB.out)))); (case aL => have := LMc4.out; omega); intro v216 w8 ho hb hg hat; rw [← Ny215.out] at ho; have n0_ := zf.mk (hb); have n1_ := zf.mk (ho); clear HB; clear HO214; have HB := n0_; have HO217 := n1_; clear n0_ n1_; clear ho hb hg hat))
   go_ret;exact ⟨_, by first | rfl | (simp [Zd, Ze] <;> rfl) | (simp [*, Zd, Ze] <;> rfl), by (with_reducible repeat (first | apply Kd.yf | apply Kd.yj | apply Kd.yu)); exact HO217.out, by repeat (first | (with_reducible first | exact HB.out | apply zh | apply zg | apply zk) | exact HB.out)⟩
  ·
   rw [if_neg c4] at H;exact absurd H (by simp)
 ·
  rw [if_neg c3] at H;exact absurd H (by simp)
def Fr (w : World) (o : Nat → Prop) (w' : World) (o' : Nat → Prop) : Prop :=
 Below 0 w w' ∧ (∀ k, k < w.heap.size → ¬ o k → w'.heap[k]? = w.heap[k]?) ∧ ∀ k, k < w.heap.size → o' k → o k
section
variable {w w1 w2 : World} {o o1 o2 : Nat → Prop}
theorem Fr.refl (w : World) (o : Nat → Prop) : Fr w o w o := ⟨Below.refl _ _, fun _ _ _ => rfl, fun _ _ h => h⟩
theorem Fr.size (h : Fr w o w1 o1) : w.heap.size ≤ w1.heap.size := h.1.size
theorem Fr.trans (h : Fr w o w1 o1) (k : Fr w1 o1 w2 o2) : Fr w o w2 o2 :=
 ⟨h.1.trans k.1, fun i hi hn => (k.2.1 i (Nat.lt_of_lt_of_le hi h.size) (fun c => hn (h.2.2 i hi c))).trans (h.2.1 i hi hn), fun i hi c => h.2.2 i hi (k.2.2 i (Nat.lt_of_lt_of_le hi h.size) c)⟩
theorem Fr.below (h : Fr w o w1 o1) (hb : Below w1.heap.size w1 w2) : Fr w o w2 o1 :=
 h.trans ⟨hb.mono (Nat.zero_le _), fun k hk _ => hb.block k hk, fun _ _ c => c⟩
theorem Fr.alloc (h : Fr w o w1 o1) (x : Obj) : Fr w o (w1.alloc x) o1 := h.below (zh (Below.refl _ _) x)
theorem Fr.drew (h : Fr w o w1 o1) : Fr w o w1.drew o1 := h.below (Yw (Below.refl _ _))
theorem Fr.drewN (h : Fr w o w1 o1) (n : Nat) : Fr w o (w1.drewN n) o1 := h.below (zg (Below.refl _ _) n)
theorem Fr.set (h : Fr w o w1 o1) {p : Addr} (hp : w.heap.size ≤ p.block ∨ o p.block) (u : Value) : Fr w o (w1.setCell p u) o1 := by
 refine ⟨h.1.setCell (Nat.zero_le _) u, fun k hk hn => ?_, h.2.2⟩;rw [Below.heap_setCell w1 p u k (by rintro rfl; exact hp.elim (fun h => by omega) hn)];exact h.2.1 k hk hn
theorem Fr.own (h : Fr w o w1 o1) (hs : ∀ k, k < w.heap.size → o2 k → o k) : Fr w o w1 o2 := ⟨h.1, h.2.1, hs⟩
theorem Fr.grown (h : Fr w o w1 o1) {row : Option Nat} (hg : w1.grownBy w2 row) (hr : ∀ k, row = some k → w.heap.size ≤ k ∨ o k) : Fr w o w2 o1 := by
 refine ⟨h.1.grown hg (Nat.zero_le _) (fun _ _ => Nat.zero_le _), fun k hk hn => ?_, h.2.2⟩;rw [hg.block k (Nat.lt_of_lt_of_le hk h.size) (fun c => (hr k c.symm).elim (fun h => by omega) hn)];exact h.2.1 k hk hn
theorem Fr.toBelow {N : Nat} (h : Fr w o w1 o1) (ho : ∀ k, o k → N ≤ k) (hN : N ≤ w.heap.size) : Below N w w1 :=
 ⟨h.1.os, h.1.tape, h.1.output, h.1.size, fun k hk => h.2.1 k (by omega) (fun c => by have := ho k c; omega)⟩
end
def Loc (w : World) (o : Nat → Prop) (b : Nat) (cs : Array Value) (t : TypeId) : Prop := w.heap[b]? = some (.cells cs t (0, 0)) ∧ ¬ o b
section
variable {w w1 : World} {o o1 : Nat → Prop} {b : Nat} {cs : Array Value} {t : TypeId}
theorem Loc.fr (h : Loc w o b cs t) (f : Fr w o w1 o1) : Loc w1 o1 b cs t := ⟨(f.2.1 b (Yp h.1) h.2).trans h.1, fun c => h.2 (f.2.2 b (Yp h.1) c)⟩
theorem Loc.new (w : World) (hlt : ∀ k, o k → k < w.heap.size) (cs : Array Value) (t : TypeId) : Loc (w.alloc (.cells cs t (0, 0))) o w.heap.size cs t :=
 ⟨heap_alloc_new w _, fun c => Nat.lt_irrefl _ (hlt _ c)⟩
theorem Loc.below (h : Loc w o b cs t) (hb : Below w.heap.size w w1) : Loc w1 o b cs t := ⟨zy h.1 hb, h.2⟩
theorem Loc.drew (h : Loc w o b cs t) : Loc w.drew o b cs t := h
theorem Loc.drewN (h : Loc w o b cs t) (n : Nat) : Loc (w.drewN n) o b cs t := h
theorem Loc.alloc (h : Loc w o b cs t) (x : Obj) : Loc (w.alloc x) o b cs t := h.below (zh (Below.refl _ _) x)
theorem Loc.put (h : Loc w o b cs t) (i : Nat) (u : Value) {cs' : Array Value} (e : cs.setIfInBounds i u = cs') : Loc (w.setCell ⟨b, i, none⟩ u) o b cs' t := ⟨Yc h.1 i u e, h.2⟩
theorem Loc.far (h : Loc w o b cs t) {p : Addr} (hp : b ≠ p.block) (u : Value) : Loc (w.setCell p u) o b cs t := ⟨Zx h.1 hp u, h.2⟩
theorem Loc.cell (h : Loc w o b cs t) (i : Nat) {v : Value} (e : cs[i]? = some v) : w.cell? ⟨b, i, none⟩ = some v := (yc h.1 i).trans e
theorem Loc.froz (h : Loc w o b cs t) (i : Nat) : w.frozen? ⟨b, i, none⟩ = false := zx h.1 i
theorem Loc.lt (h : Loc w o b cs t) : b < w.heap.size := Yp h.1
end
open Go.RowKit Go.Proofs.YtfcjpkkglffnmaaGreatDoorW.PrintWords Go.Proofs.YtfcjpkkglffnmaaGreatDoorW.PrintLast Go.Proofs.YtfcjpkkglffnmaaGreatDoorW.PrintMore
attribute [local go_sem] Vz V3 za0 za1 Vd Ve V4 V5
set_option linter.unusedVariables false
set_option linter.unusedSimpArgs false
def own2 (g gn : Nat) : Nat → Prop := fun k => k = g ∨ k = gn
def okAt (ok : Nat → Prop) (w : World) : Nat → Prop := fun k => ok k ∧ k < w.heap.size
structure SW (ok : Nat → Prop) (w : World) (base g gn cap : Nat) (Ao : Option Addr) (co : Nat) (ops : List S42) (nn : Nat) (ns : List S44) (code at_ : Int) : Prop where
 blk : w.heap[g]? = some (.cells #[.slice Ao ops.length co, .slice (some ⟨gn, 0, none⟩) nn cap, .int .i64 code, .int .i64 at_] 54 (0, 0))
 ops : Kd.F k42 w ok Ao ops.length ops
 nsR : Kd.R k44 44 w base (fun k => k = gn) (.slice (some ⟨gn, 0, none⟩) nn cap) ns
 len : ns.length = nn
section
variable {ok ok' : Nat → Prop} {w w1 : World} {base g gn cap : Nat} {Ao : Option Addr} {co : Nat} {ops : List S42} {nn : Nat} {ns : List S44} {code at_ : Int}
theorem SW.below (h : SW ok w base g gn cap Ao co ops nn ns code at_) (hb : Below w.heap.size w w1) : SW ok w1 base g gn cap Ao co ops nn ns code at_ := ⟨zy h.blk hb, Kd.zbe h.ops hb, Kd.Zg h.nsR hb, h.len⟩
theorem SW.drew (h : SW ok w base g gn cap Ao co ops nn ns code at_) : SW ok w.drew base g gn cap Ao co ops nn ns code at_ := h.below (Yw (Below.refl _ _))
theorem SW.alloc (h : SW ok w base g gn cap Ao co ops nn ns code at_) (x : Obj) : SW ok (w.alloc x) base g gn cap Ao co ops nn ns code at_ := h.below (zh (Below.refl _ _) x)
theorem SW.far (h : SW ok w base g gn cap Ao co ops nn ns code at_) {p : Addr} (hp : ¬ own2 g gn p.block) (ho : ∀ k, ok k → k ≠ p.block) (u : Value) : SW ok (w.setCell p u) base g gn cap Ao co ops nn ns code at_ :=
 ⟨Zx h.blk (fun e => hp (.inl e.symm)) u, Kd.zia h.ops ho u, Kd.Zn h.nsR (fun k hk e => hp (.inr (e ▸ hk))) u, h.len⟩
theorem SW.mono (h : SW ok w base g gn cap Ao co ops nn ns code at_) (ho : ∀ k, ok k → ok' k) : SW ok' w base g gn cap Ao co ops nn ns code at_ := ⟨h.blk, Kd.zgj h.ops ho, h.nsR, h.len⟩
theorem SW.bound (h : SW ok w base g gn cap Ao co ops nn ns code at_) : SW (okAt ok w) w base g gn cap Ao co ops nn ns code at_ := ⟨h.blk, Kd.zr8 h.ops, h.nsR, h.len⟩
theorem SW.lt (h : SW ok w base g gn cap Ao co ops nn ns code at_) (k : Nat) (hk : own2 g gn k) : k < w.heap.size := by
 rcases hk with rfl | rfl
 ·
  exact Yp h.blk
 ·
  exact Kd.R_lt h.nsR _ rfl
theorem SW.ne (h : SW ok w base g gn cap Ao co ops nn ns code at_) : g ≠ gn := by
 intro e;obtain ⟨cells, h1⟩ := Kd.zfl h.nsR gn rfl;have hb := h.blk;rw [e, h1] at hb;injection hb with hb
 injection hb with _ hb
 exact absurd hb (by decide)
end
def failC (code at_ c a : Int) : Int × Int := if code = 0 then (c, a) else (code, at_)
def lastAt (nm : ByteArray) (env : List ByteArray) : Nat → Int
 | 0 => -1
 | i + 1 => if (rdOf ByteArray.empty env i).toList = nm.toList then (i : Int) else lastAt nm env i
def kidsE (x : S44) : List (Int × List ByteArray) :=
 if x.f0 = 3 then [(x.f1, [x.f6])] else if x.f0 = 5 then [(x.f1, []), (x.f2, [x.f6])] else if x.f0 = 6 then [(x.f1, [x.f6, x.f7]), (x.f2, [x.f6])]
 else if x.f0 = 9 then [(x.f1, [])] else if x.f0 = 10 then [(x.f1, []), (x.f2, [x.f6, x.f7]), (x.f3, [x.f8])]
 else if x.f0 = 4 ∨ x.f0 = 8 then [(x.f1, []), (x.f2, [])] else if x.f0 = 7 then [(x.f1, []), (x.f2, []), (x.f3, [])] else []
abbrev SSt := List S44 × Int × Int
def swKids (g : SSt → Int → List ByteArray → Option SSt) (env : List ByteArray) : List (Int × List ByteArray) → SSt → Option SSt
 | [], s => some s
 | (c, more) :: cs, s => (g s c (env ++ more)).bind fun s' => swKids g env cs s'
def swOwn (ops : List S42) (x : S44) (env : List ByteArray) (code at_ : Int) : Int × Int × Int :=
 if x.f0 = 0 then ((env.length : Int) - 1 - lastAt x.f5 env env.length, if lastAt x.f5 env env.length < 0 then failC code at_ 601 x.f9 else (code, at_))
 else if x.f0 = 9 ∨ x.f0 = 10 then (if opIdx x.f5 ops 0 < 0 then (0, failC code at_ 602 x.f9) else (opIdx x.f5 ops 0, (code, at_)))
 else (x.f4, (code, at_))
def swalk.f : Nat → List S42 → SSt → Int → List ByteArray → Option SSt
 | 0, _, _, _, _ => none
 | k + 1, ops, s, n, env => if 0 ≤ n ∧ n < (s.1.length : Int) ∧ env.length ≤ 2000 ∧ ops.length ≤ 4 then
   (swKids (swalk.f k ops) env (kidsE (zl s.1 n)) (s.1, (swOwn ops (zl s.1 n) env s.2.1 s.2.2).2)).bind fun s' =>
    some (s'.1.set n.toNat (blankN (zl s.1 n) (swOwn ops (zl s.1 n) env s.2.1 s.2.2).1), s'.2)
  else none
def WalkOK (k : Nat) : Prop := ∀ (ok : Nat → Prop) (g gn cap nn : Nat) (Ao : Option Addr) (co : Nat) (ops : List S42) (ns : List S44) (code at_ n : Int) (A : Option Addr) (c : Nat) (env : List ByteArray) (ns' : List S44) (code' at' : Int) (base : Nat) (w : World),
 (∀ k, ok k → ¬ own2 g gn k) → SW ok w base g gn cap Ao co ops nn ns code at_ → Kd.F Kd.string w ok A env.length env → env.length ≤ c → swalk.f k ops (ns, code, at_) n env = some (ns', code', at') →
 Calls Tryz.prog 23 #[.pointer (some ⟨g, 0, none⟩), .int .i64 n, .slice A env.length c] w fun e w' => e = .returned (.tuple #[]) ∧ SW ok w' base g gn cap Ao co ops nn ns' code' at' ∧ Fr w (own2 g gn) w' (own2 g gn)
set_option maxRecDepth 100000 in
set_option maxHeartbeats 8000000 in
theorem zkt (g gn cap : Nat) (Ao : Option Addr) (co : Nat) (ops : List S42) (nn : Nat) (ns : List S44) (code at_ c a : Int) (ok : Nat → Prop) (base : Nat) (w : World) (hok : ∀ k, ok k → ¬ own2 g gn k) (hs : SW ok w base g gn cap Ao co ops nn ns code at_) :
  Calls Tryz.prog 46 #[.pointer (some ⟨g, 0, none⟩), .int .i64 c, .int .i64 a] w fun e w' => e = .returned (.tuple #[]) ∧ SW ok w' base g gn cap Ao co ops nn ns (failC code at_ c a).1 (failC code at_ c a).2 ∧ Fr w (own2 g gn) w' (own2 g gn) := by
 have HS := zf.mk hs;have hne := hs.ne;have c2 : w.cell? ⟨g, 2, none⟩ = some (.int .i64 code) := (yc hs.blk 2).trans rfl;have c3 : w.cell? ⟨g, 3, none⟩ = some (.int .i64 at_) := (yc hs.blk 3).trans rfl;have f2 := zx hs.blk 2;have f3 := zx hs.blk 3;have hgo : ∀ k, ok k → k ≠ g := fun k hk e => hok k hk (.inl e)
 have HGO := zf.mk hgo;clear hs hok hgo;by_cases h0 : code = 0
 ·
  have b0 : (code == 0) = true := beq_iff_eq.mpr h0;have HE := zf.mk (show failC code at_ c a = (c, a) by unfold failC; rw [if_pos h0]);clear h0;go_enter Tryz.func46, Tryz.ntmps46;go_wp2_with fail
  first | go_end0 | ((try simp only [Exit.inBlock, Exit.then]); refine bodyPost_ret (results_none rfl _ _ _) rfl ?_)
  rw [HE.out];refine ⟨rfl, ⟨Yc (Yc HS.out.blk 2 _ rfl) 3 _ rfl, Kd.zia (Kd.zia HS.out.ops HGO.out _) HGO.out _, Kd.Zn (Kd.Zn HS.out.nsR (fun k hk => hk ▸ hne.symm) _) (fun k hk => hk ▸ hne.symm) _, HS.out.len⟩, ((Fr.refl _ _).set (.inr (.inl rfl)) _).set (.inr (.inl rfl)) _⟩
 ·
  have b0 : (code == 0) = false := beq_eq_false_iff_ne.mpr h0;have HE := zf.mk (show failC code at_ c a = (code, at_) by unfold failC; rw [if_neg h0]);clear h0;go_enter Tryz.func46, Tryz.ntmps46;go_wp2_with fail
  first | go_end0 | ((try simp only [Exit.inBlock, Exit.then]); refine bodyPost_ret (results_none rfl _ _ _) rfl ?_)
  rw [HE.out];exact ⟨rfl, HS.out, Fr.refl _ _⟩
theorem hr_dropZ {α : Type} {l : List α} {i : Nat} {c : α} (h : l[i]? = some c) : c :: l.drop (i + 1) = l.drop i := by
 obtain ⟨hi, rfl⟩ := List.getElem?_eq_some_iff.1 h;exact (List.drop_eq_getElem_cons hi).symm
set_option maxRecDepth 100000 in
set_option maxHeartbeats 8000000 in
theorem zni (g gn cap : Nat) (Ao : Option Addr) (co : Nat) (ops : List S42) (nn : Nat) (ns : List S44) (code at_ a : Int) (s : ByteArray) (ok : Nat → Prop) (base : Nat) (w : World) (h4 : ops.length ≤ 4) (hok : ∀ k, ok k → ¬ own2 g gn k) (hs : SW ok w base g gn cap Ao co ops nn ns code at_) (v : Int) (p : Int × Int) (hv : (if opIdx s ops 0 < 0 then (0, failC code at_ 602 a) else (opIdx s ops 0, (code, at_))) = (v, p)) :
  Calls Tryz.prog 48 #[.pointer (some ⟨g, 0, none⟩), .string s, .int .i64 a] w fun e w' => e = .returned (.int .i64 v) ∧ SW ok w' base g gn cap Ao co ops nn ns p.1 p.2 ∧ Fr w (own2 g gn) w' (own2 g gn) := by
 have HS := zf.mk hs;have HOK := zf.mk hok;obtain ⟨r, hr⟩ : ∃ r, opIdx s ops 0 = r := ⟨_, rfl⟩;rw [hr] at hv;have H := zf.mk hr;have HV := zf.mk hv;clear hs hok hr hv;go_enter Tryz.func48, Tryz.ntmps48;go_wp2_with fail
 go_loopw [7] (fun v6 wr => ∃ (i : Nat), v6 = .int .i64 i ∧ i ≤ ops.length ∧ zf (opIdx s (ops.drop i) i = r) ∧ zf (SW ok wr base g gn cap Ao co ops nn ns code at_) ∧ zf (Fr w (own2 g gn) wr (own2 g gn))) (fun v6 _ => ops.length - (intOf v6).toNat)
 case atStart => exact ⟨0, rfl, Nat.zero_le _, H, HS, ⟨Fr.refl _ _⟩⟩
 case round =>
  obtain ⟨i, rfl, hi, HG, HS, HF⟩ := hrel;clear H;have c0 : wr.cell? ⟨g, 0, none⟩ = some (.slice Ao ops.length co) := (yc HS.out.blk 0).trans rfl;by_cases hlt : i < ops.length
  ·
   have hcr : Kd.C k42 wr Ao ops.length ops := Kd.zgs HS.out.ops;obtain ⟨ad, e157, hx0, hx1, hx2⟩ := za5 hcr i (by omega) (by omega);cases e157;have hxx : ops[i]? = some (Zp ops i) := by
    rw [List.getElem?_eq_getElem hlt, Zp, Int.toNat_natCast, List.getD_eq_getElem?_getD, List.getElem?_eq_getElem hlt];rfl
   have hg := HG.out;rw [← hr_dropZ hxx, opIdx] at hg;have HG2 := zf.mk hg;rw [Int.toNat_natCast] at hx0 hx1 hx2;generalize Zp ops i = x at *;clear hg hxx hcr HG;cases hb : (x.f0.toList == s.toList)
   ·
    have hg := HG2.out;rw [hb] at hg;simp only [Bool.false_eq_true, if_false] at hg;have HG3 := zf.mk hg;clear hg HG2;go_wp2_with fail
    go_roundw
    case rel => exact ⟨i + 1, by go_num, by omega, HG3, HS, HF⟩
    case measure => simp [intOf]; omega
   ·
    have hg := HG2.out;rw [hb] at hg;simp only [if_true] at hg;subst hg;have hv := HV.out;rw [if_neg (by omega)] at hv;obtain ⟨rfl, rfl⟩ := Prod.mk.inj hv;clear HG2 hv HV;go_wp2_with fail
    go_ret;exact ⟨rfl, HS.out, HF.out⟩
  ·
   have hg := HG.out;rw [List.drop_eq_nil_of_le (by omega), opIdx] at hg;subst hg;have hv := HV.out;rw [if_pos (by decide)] at hv;obtain ⟨rfl, rfl⟩ := Prod.mk.inj hv;clear HG hv HV;go_wp2_with fail
   refine (zkt g gn cap Ao co ops nn ns code at_ 602 a ok base wr HOK.out HS.out).mono ?_;rintro e w2 ⟨rfl, hs2, hf2⟩;have HS2 := zf.mk hs2;have HF2 := zf.mk (HF.out.trans hf2);clear hs2 hf2;go_wp2_with fail
   go_ret;exact ⟨rfl, HS2.out, HF2.out⟩
theorem zfd (l0 l1 : List ByteArray) (h : l0.length + l1.length ≤ 4000) : Vm.f l0 l1 = some (l0 ++ l1) := by
 unfold Vm.f;rw [Option.bind_some, if_pos (by simp; omega), Option.bind_some, List.nil_append, if_pos (by omega)]
structure SX (ok : Nat → Prop) (W0 w : World) (base g gn cap : Nat) (Ao : Option Addr) (co : Nat) (ops : List S42) (nn : Nat) (ns : List S44) (code at_ : Int) (A : Option Addr) (env : List ByteArray) (bx : Nat) (csx : Array Value) (cy : Nat) (csy : Array Value) : Prop where
 sw : SW ok w base g gn cap Ao co ops nn ns code at_
 env : Kd.F Kd.string w ok A env.length env
 X : Loc w (own2 g gn) bx csx 44
 Y : Loc w (own2 g gn) cy csy 44
 fr : Fr W0 (own2 g gn) w (own2 g gn)
section
variable {ok : Nat → Prop} {W0 w w1 : World} {base g gn cap : Nat} {Ao : Option Addr} {co : Nat} {ops : List S42} {nn : Nat} {ns ns1 : List S44} {code at_ code1 at1 : Int} {A : Option Addr} {env : List ByteArray} {bx cy : Nat} {csx csy csy' : Array Value}
theorem SX.call {ok2 : Nat → Prop} (h : SX ok W0 w base g gn cap Ao co ops nn ns code at_ A env bx csx cy csy) (hok : ∀ k, ok k → ¬ own2 g gn k) (hs : SW ok2 w1 base g gn cap Ao co ops nn ns1 code1 at1) (hf : Fr w (own2 g gn) w1 (own2 g gn)) : SX ok W0 w1 base g gn cap Ao co ops nn ns1 code1 at1 A env bx csx cy csy :=
 ⟨⟨hs.blk, Kd.zlg h.sw.ops (fun k hk hlt => hf.2.1 k hlt (hok k hk)), hs.nsR, hs.len⟩, Kd.zlg h.env (fun k hk hlt => hf.2.1 k hlt (hok k hk)), h.X.fr hf, h.Y.fr hf, h.fr.trans hf⟩
theorem SX.below (h : SX ok W0 w base g gn cap Ao co ops nn ns code at_ A env bx csx cy csy) (hb : Below w.heap.size w w1) : SX ok W0 w1 base g gn cap Ao co ops nn ns code at_ A env bx csx cy csy :=
 ⟨h.sw.below hb, Kd.zbe h.env hb, h.X.below hb, h.Y.below hb, h.fr.below hb⟩
theorem SX.putY (h : SX ok W0 w base g gn cap Ao co ops nn ns code at_ A env bx csx cy csy) (hok : ∀ k, ok k → k ≠ cy) (hne : bx ≠ cy) (hW : W0.heap.size ≤ cy) (i : Nat) (u : Value) (e : csy.setIfInBounds i u = csy') : SX ok W0 (w.setCell ⟨cy, i, none⟩ u) base g gn cap Ao co ops nn ns code at_ A env bx csx cy csy' :=
 ⟨h.sw.far h.Y.2 hok u, Kd.zia h.env hok u, h.X.far hne u, h.Y.put i u e, h.fr.set (.inl hW) u⟩
end
def yCells (x : S44) (v : Int) : Array Value := #[.int .i64 x.f0, .int .i64 x.f1, .int .i64 x.f2, .int .i64 x.f3, .int .i64 v, .string ⟨#[]⟩, .string ⟨#[]⟩, .string ⟨#[]⟩, .string ⟨#[]⟩, .int .i64 x.f9]
theorem zru {ok : Nat → Prop} {w : World} {base g gn cap : Nat} {Ao : Option Addr} {co : Nat} {ops : List S42} {nn : Nat} {ns : List S44} {code at_ : Int} {A : Option Addr} {env : List ByteArray} (hok : ∀ k, ok k → ¬ own2 g gn k) (hs : SW ok w base g gn cap Ao co ops nn ns code at_) (he : Kd.F Kd.string w ok A env.length env) (x : S44) :
  ∃ w1, ((w.alloc (.cells #[.int .i64 x.f0, .int .i64 x.f1, .int .i64 x.f2, .int .i64 x.f3, .int .i64 x.f4, .string x.f5, .string x.f6, .string x.f7, .string x.f8, .int .i64 x.f9] 44)).alloc (.cells #[.int .i64 x.f0, .int .i64 x.f1, .int .i64 x.f2, .int .i64 x.f3, .int .i64 x.f4, .string ⟨#[]⟩, .string ⟨#[]⟩, .string ⟨#[]⟩, .string ⟨#[]⟩, .int .i64 x.f9] 44)) = w1 ∧
   SX (okAt ok w) w w1 base g gn cap Ao co ops nn ns code at_ A env w.heap.size (nodeCells x).toArray (w.heap.size + 1) (yCells x x.f4) := by
 refine ⟨_, rfl, (hs.bound.alloc _).alloc _, Kd.zc1 (Kd.zc1 (Kd.zr8 he) _) _, ?_, ?_, ((Fr.refl _ _).alloc _).alloc _⟩
 ·
  exact (Loc.new w hs.lt (nodeCells x).toArray 44).alloc _
 ·
  exact ⟨zfj (by simp) _, fun c => by have := hs.lt _ c; omega⟩
def nodeSet (W : World) (gn an : Nat) (g0 g1 g2 g3 v g9 : Int) : World := ((((((((((W.setCell ⟨gn, an * 10, none⟩ (.int .i64 g0)).setCell ⟨gn, an * 10 + 1, none⟩ (.int .i64 g1)).setCell ⟨gn, an * 10 + 2, none⟩ (.int .i64 g2)).setCell ⟨gn, an * 10 + 3, none⟩ (.int .i64 g3)).setCell ⟨gn, an * 10 + 4, none⟩ (.int .i64 v)).setCell ⟨gn, an * 10 + 5, none⟩ (.string ⟨#[]⟩)).setCell ⟨gn, an * 10 + 6, none⟩ (.string ⟨#[]⟩)).setCell ⟨gn, an * 10 + 7, none⟩ (.string ⟨#[]⟩)).setCell ⟨gn, an * 10 + 8, none⟩ (.string ⟨#[]⟩)).setCell ⟨gn, an * 10 + 9, none⟩ (.int .i64 g9))
theorem zuj {W : World} {base gn nn cap : Nat} {xs : List S44} (h : Kd.R k44 44 W base (fun k => k = gn) (.slice (some ⟨gn, 0, none⟩) nn cap) xs) (an : Nat) (hl : xs.length = nn) (hi : an < nn) (g0 g1 g2 g3 v g9 : Int) : Kd.R k44 44 (nodeSet W gn an g0 g1 g2 g3 v g9) base (fun k => k = gn) (.slice (some ⟨gn, 0, none⟩) nn cap) (xs.set an (⟨g0, g1, g2, g3, v, ⟨#[]⟩, ⟨#[]⟩, ⟨#[]⟩, ⟨#[]⟩, g9⟩ : S44)) := by
 obtain ⟨x, hx⟩ : ∃ x, xs[an]? = some x := ⟨_, List.getElem?_eq_getElem (by omega)⟩;have hg : ∀ z : S44, (xs.set an z)[an]? = some z := fun z => List.getElem?_set_self (by omega)
 have r0 := zbw h an hi x (⟨g0, x.f1, x.f2, x.f3, x.f4, x.f5, x.f6, x.f7, x.f8, x.f9⟩ : S44) hx 0 (.int .i64 g0) (by omega) rfl;have r1 := zbw r0 an hi _ (⟨g0, g1, x.f2, x.f3, x.f4, x.f5, x.f6, x.f7, x.f8, x.f9⟩ : S44) (hg _) 1 (.int .i64 g1) (by omega) rfl;rw [List.set_set] at r1;have r2 := zbw r1 an hi _ (⟨g0, g1, g2, x.f3, x.f4, x.f5, x.f6, x.f7, x.f8, x.f9⟩ : S44) (hg _) 2 (.int .i64 g2) (by omega) rfl;rw [List.set_set] at r2;have r3 := zbw r2 an hi _ (⟨g0, g1, g2, g3, x.f4, x.f5, x.f6, x.f7, x.f8, x.f9⟩ : S44) (hg _) 3 (.int .i64 g3) (by omega) rfl;rw [List.set_set] at r3;have r4 := zbw r3 an hi _ (⟨g0, g1, g2, g3, v, x.f5, x.f6, x.f7, x.f8, x.f9⟩ : S44) (hg _) 4 (.int .i64 v) (by omega) rfl;rw [List.set_set] at r4;have r5 := zbw r4 an hi _ (⟨g0, g1, g2, g3, v, ⟨#[]⟩, x.f6, x.f7, x.f8, x.f9⟩ : S44) (hg _) 5 (.string ⟨#[]⟩) (by omega) rfl;rw [List.set_set] at r5;have r6 := zbw r5 an hi _ (⟨g0, g1, g2, g3, v, ⟨#[]⟩, ⟨#[]⟩, x.f7, x.f8, x.f9⟩ : S44) (hg _) 6 (.string ⟨#[]⟩) (by omega) rfl;rw [List.set_set] at r6;have r7 := zbw r6 an hi _ (⟨g0, g1, g2, g3, v, ⟨#[]⟩, ⟨#[]⟩, ⟨#[]⟩, x.f8, x.f9⟩ : S44) (hg _) 7 (.string ⟨#[]⟩) (by omega) rfl;rw [List.set_set] at r7;have r8 := zbw r7 an hi _ (⟨g0, g1, g2, g3, v, ⟨#[]⟩, ⟨#[]⟩, ⟨#[]⟩, ⟨#[]⟩, x.f9⟩ : S44) (hg _) 8 (.string ⟨#[]⟩) (by omega) rfl;rw [List.set_set] at r8;have r9 := zbw r8 an hi _ (⟨g0, g1, g2, g3, v, ⟨#[]⟩, ⟨#[]⟩, ⟨#[]⟩, ⟨#[]⟩, g9⟩ : S44) (hg _) 9 (.int .i64 g9) (by omega) rfl;rw [List.set_set] at r9;exact r9
theorem zqq {W : World} {g gn an : Nat} {g0 g1 g2 g3 v g9 : Int} {cs : Array Value} {t : TypeId} (h : W.heap[g]? = some (.cells cs t (0, 0))) (hp : g ≠ gn) : (nodeSet W gn an g0 g1 g2 g3 v g9).heap[g]? = some (.cells cs t (0, 0)) := by
 unfold nodeSet;repeat refine Zx ?_ hp _
 exact h
theorem zuk {W : World} {α : Type} {d : Kd α} {ok : Nat → Prop} {A : Option Addr} {n : Nat} {xs : List α} {gn an : Nat} {g0 g1 g2 g3 v g9 : Int} (h : Kd.F d W ok A n xs) (hp : ∀ k, ok k → k ≠ gn) : Kd.F d (nodeSet W gn an g0 g1 g2 g3 v g9) ok A n xs := by
 unfold nodeSet;repeat refine Kd.zia ?_ hp _
 exact h
theorem zrv {w W : World} {o o1 : Nat → Prop} {gn an : Nat} {g0 g1 g2 g3 v g9 : Int} (h : Fr w o W o1) (hp : o gn) : Fr w o (nodeSet W gn an g0 g1 g2 g3 v g9) o1 := by
 unfold nodeSet;repeat refine Fr.set ?_ (.inr hp) _
 exact h
theorem zrx {ok : Nat → Prop} {w : World} {base g gn cap : Nat} {Ao : Option Addr} {co : Nat} {ops : List S42} {nn : Nat} {ns : List S44} {code at_ : Int} (h : SW ok w base g gn cap Ao co ops nn ns code at_) (hok : ∀ k, ok k → ¬ own2 g gn k) (an : Nat) (hi : an < nn) (g0 g1 g2 g3 v g9 : Int) : SW ok (nodeSet w gn an g0 g1 g2 g3 v g9).drew base g gn cap Ao co ops nn (ns.set an (⟨g0, g1, g2, g3, v, ⟨#[]⟩, ⟨#[]⟩, ⟨#[]⟩, ⟨#[]⟩, g9⟩ : S44)) code at_ :=
 SW.drew ⟨zqq h.blk h.ne, zuk h.ops (fun k hk e => hok k hk (.inr e)), zuj h.nsR an h.len hi _ _ _ _ _ _, by rw [List.length_set]; exact h.len⟩
theorem strsC {W : World} {b : Nat} {t : TypeId} {l : List ByteArray} (h : W.heap[b]? = some (.cells (l.map Value.string).toArray t (0, 0))) (hl : l.length ≤ 10) : Kd.C Kd.string W (some ⟨b, 0, none⟩) l.length l := by
 refine ⟨rfl, by omega, fun _ => ⟨_, rfl, fun j p hj => ⟨[.string p], rfl, rfl, fun i u hu => ?_⟩⟩⟩;have hi : i < 1 := (List.getElem?_eq_some_iff.1 hu).1;obtain rfl : i = 0 := by omega
 rw [add_plain, show j * Kd.string.sz + 0 = j from by show j * 1 + 0 = j; omega, yc h j, List.getElem?_toArray, List.getElem?_map, hj];exact hu
set_option maxRecDepth 100000 in
set_option maxHeartbeats 40000000 in
theorem zul (k : Nat) (ih : WalkOK k) : WalkOK (k + 1) := by
 intro ok g gn cap nn Ao co ops ns code at_ n A c env ns' code' at' base w hok hs he hc h;rw [swalk.f] at h;by_cases h0 : 0 ≤ n ∧ n < ((ns, code, at_).1.length : Int) ∧ env.length ≤ 2000 ∧ ops.length ≤ 4
 ·
  rw [if_pos h0] at h;obtain ⟨ha, hb, h2000, h4⟩ := h0;obtain ⟨an, rfl⟩ := Int.eq_ofNat_of_zero_le ha;dsimp only at h hb;have hlt : an < ns.length := by omega
  have hlt2 : an < nn := by have := hs.len; omega
  have hx : ns[an]? = some (zl ns an) := by
   rw [List.getElem?_eq_getElem hlt, zl, Int.toNat_natCast, List.getD_eq_getElem?_getD, List.getElem?_eq_getElem hlt];rfl
  replace h := Option.bind_eq_some_iff.mp h;obtain ⟨⟨ns2, code2, at2⟩, hk, h⟩ := h;rw [Int.toNat_natCast] at h;generalize zl ns an = x at *;obtain ⟨⟨v, c1, a1⟩, hown⟩ : ∃ p, swOwn ops x env code at_ = p := ⟨_, rfl⟩;rw [hown] at hk h;simp only [Option.some.injEq, Prod.mk.injEq] at h;obtain ⟨rfl, rfl, rfl⟩ := h;dsimp only at hk;have z1 : w.cell? ⟨g, 1, none⟩ = some (.slice (some ⟨gn, 0, none⟩) nn cap) := (yc hs.blk 1).trans rfl;obtain ⟨hcell, hfroz⟩ := zjm hs.nsR an hlt2 x hx;have x0 : w.cell? ⟨gn, an * 10, none⟩ = some (.int .i64 x.f0) := hcell 0 _ rfl;have x1 : w.cell? ⟨gn, an * 10 + 1, none⟩ = some (.int .i64 x.f1) := hcell 1 _ rfl;have x2 : w.cell? ⟨gn, an * 10 + 2, none⟩ = some (.int .i64 x.f2) := hcell 2 _ rfl;have x3 : w.cell? ⟨gn, an * 10 + 3, none⟩ = some (.int .i64 x.f3) := hcell 3 _ rfl;have x4 : w.cell? ⟨gn, an * 10 + 4, none⟩ = some (.int .i64 x.f4) := hcell 4 _ rfl;have x5 : w.cell? ⟨gn, an * 10 + 5, none⟩ = some (.string x.f5) := hcell 5 _ rfl;have x6 : w.cell? ⟨gn, an * 10 + 6, none⟩ = some (.string x.f6) := hcell 6 _ rfl;have x7 : w.cell? ⟨gn, an * 10 + 7, none⟩ = some (.string x.f7) := hcell 7 _ rfl;have x8 : w.cell? ⟨gn, an * 10 + 8, none⟩ = some (.string x.f8) := hcell 8 _ rfl;have x9 : w.cell? ⟨gn, an * 10 + 9, none⟩ = some (.int .i64 x.f9) := hcell 9 _ rfl;obtain ⟨w1, hW1, hX⟩ := zru hok hs he x;have HW1 := zf.mk hW1;have HX := zf.mk hX;have HK := zf.mk hk;have HOWN := zf.mk hown;have IH := zf.mk ih;have HOK := zf.mk hok;have HC := zf.mk hc;have hok1 : ∀ k, okAt ok w k → ¬ own2 g gn k := fun k hk => hok k hk.1
  have HOK1 := zf.mk hok1;have hoky : ∀ k, okAt ok w k → k ≠ w.heap.size + 1 := fun k hk e => by have := hk.2; omega
  have HOKY := zf.mk hoky;have HL := zf.mk hs.len;clear hs he hx hk hown hcell hfroz hW1 hX hok hc ih hb hlt hok1 hoky;go_enter Tryz.func23, Tryz.ntmps23;go_upto_block 0 with fail
  rw [HW1.out];go_cut [] from 8 (fun wc => zf (SX (okAt ok w) w wc base g gn cap Ao co ops nn ns2 code2 at2 A env w.heap.size (nodeCells x).toArray (w.heap.size + 1) (yCells x v)))
  case rest =>
   have HX2 := hcut;obtain ⟨xo, hx2⟩ : ∃ xo, ns2[an]? = some xo := ⟨_, List.getElem?_eq_getElem (by have := HX2.out.sw.len; omega)⟩;have HUN := zf.mk (zjm HX2.out.sw.nsR an hlt2 xo hx2).2;have HUC := zf.mk (zjm HX2.out.sw.nsR an hlt2 xo hx2).1;clear hx2 hcut HX HK HW1 x0 x1 x2 x3 x4 x5 x6 x7 x8 x9 z1;have y0 : wc.cell? ⟨w.heap.size + 1, 0, none⟩ = some (.int .i64 x.f0) := HX2.out.Y.cell 0 rfl;have y1 : wc.cell? ⟨w.heap.size + 1, 1, none⟩ = some (.int .i64 x.f1) := HX2.out.Y.cell 1 rfl;have y2 : wc.cell? ⟨w.heap.size + 1, 2, none⟩ = some (.int .i64 x.f2) := HX2.out.Y.cell 2 rfl;have y3 : wc.cell? ⟨w.heap.size + 1, 3, none⟩ = some (.int .i64 x.f3) := HX2.out.Y.cell 3 rfl;have y4 : wc.cell? ⟨w.heap.size + 1, 4, none⟩ = some (.int .i64 v) := HX2.out.Y.cell 4 rfl;have y5 : wc.cell? ⟨w.heap.size + 1, 5, none⟩ = some (.string ⟨#[]⟩) := HX2.out.Y.cell 5 rfl;have y6 : wc.cell? ⟨w.heap.size + 1, 6, none⟩ = some (.string ⟨#[]⟩) := HX2.out.Y.cell 6 rfl;have y7 : wc.cell? ⟨w.heap.size + 1, 7, none⟩ = some (.string ⟨#[]⟩) := HX2.out.Y.cell 7 rfl;have y8 : wc.cell? ⟨w.heap.size + 1, 8, none⟩ = some (.string ⟨#[]⟩) := HX2.out.Y.cell 8 rfl;have y9 : wc.cell? ⟨w.heap.size + 1, 9, none⟩ = some (.int .i64 x.f9) := HX2.out.Y.cell 9 rfl;have u0 : wc.frozen? ⟨gn, an * 10, none⟩ = false := HUN.out 0;have e0 : wc.cell? ⟨gn, an * 10, none⟩ = some (.int .i64 xo.f0) := HUC.out 0 _ rfl;have u1 : wc.frozen? ⟨gn, an * 10 + 1, none⟩ = false := HUN.out 1;have e1 : wc.cell? ⟨gn, an * 10 + 1, none⟩ = some (.int .i64 xo.f1) := HUC.out 1 _ rfl;have u2 : wc.frozen? ⟨gn, an * 10 + 2, none⟩ = false := HUN.out 2;have e2 : wc.cell? ⟨gn, an * 10 + 2, none⟩ = some (.int .i64 xo.f2) := HUC.out 2 _ rfl;have u3 : wc.frozen? ⟨gn, an * 10 + 3, none⟩ = false := HUN.out 3;have e3 : wc.cell? ⟨gn, an * 10 + 3, none⟩ = some (.int .i64 xo.f3) := HUC.out 3 _ rfl;have u4 : wc.frozen? ⟨gn, an * 10 + 4, none⟩ = false := HUN.out 4;have e4 : wc.cell? ⟨gn, an * 10 + 4, none⟩ = some (.int .i64 xo.f4) := HUC.out 4 _ rfl;have u5 : wc.frozen? ⟨gn, an * 10 + 5, none⟩ = false := HUN.out 5;have e5 : wc.cell? ⟨gn, an * 10 + 5, none⟩ = some (.string xo.f5) := HUC.out 5 _ rfl;have u6 : wc.frozen? ⟨gn, an * 10 + 6, none⟩ = false := HUN.out 6;have e6 : wc.cell? ⟨gn, an * 10 + 6, none⟩ = some (.string xo.f6) := HUC.out 6 _ rfl;have u7 : wc.frozen? ⟨gn, an * 10 + 7, none⟩ = false := HUN.out 7;have e7 : wc.cell? ⟨gn, an * 10 + 7, none⟩ = some (.string xo.f7) := HUC.out 7 _ rfl;have u8 : wc.frozen? ⟨gn, an * 10 + 8, none⟩ = false := HUN.out 8;have e8 : wc.cell? ⟨gn, an * 10 + 8, none⟩ = some (.string xo.f8) := HUC.out 8 _ rfl;have u9 : wc.frozen? ⟨gn, an * 10 + 9, none⟩ = false := HUN.out 9;have e9 : wc.cell? ⟨gn, an * 10 + 9, none⟩ = some (.int .i64 xo.f9) := HUC.out 9 _ rfl;have z1 : wc.cell? ⟨g, 1, none⟩ = some (.slice (some ⟨gn, 0, none⟩) nn cap) := (yc HX2.out.sw.blk 1).trans rfl;go_wp2_with fail
   go_region
   clear z1 ha h2000 h4;first | go_end0 | ((try simp only [Exit.inBlock, Exit.then]); refine bodyPost_ret (results_none rfl _ _ _) rfl ?_)
   have hS := (zrx HX2.out.sw HOK1.out an hlt2 x.f0 x.f1 x.f2 x.f3 v x.f9).mono (ok' := ok) (fun k hk => hk.1);have hF := Fr.drew (zrv (gn := gn) (an := an) (g0 := x.f0) (g1 := x.f1) (g2 := x.f2) (g3 := x.f3) (v := v) (g9 := x.f9) HX2.out.fr (.inr rfl));unfold nodeSet at hS hF;exact ⟨rfl, hS, hF⟩
  case first =>
   clear x0 x1 x2 x3 x4 x5 x6 x7 x8 x9 z1 HW1;by_cases hN0 : x.f0 = 0
   ·
    have q0 : (x.f0 == 0) = true := by rw [hN0]; rfl
    have hke : kidsE x = [] := by simp [kidsE, hN0]
    have hk := HK.out;rw [hke] at hk;have hk2 : some (ns, c1, a1) = some (ns2, code2, at2) := hk;simp only [Option.some.injEq, Prod.mk.injEq] at hk2;obtain ⟨rfl, rfl, rfl⟩ := hk2;have hw := HOWN.out;have hw2 : swOwn ops x env code at_ = ((env.length : Int) - 1 - lastAt x.f5 env env.length, if lastAt x.f5 env env.length < 0 then failC code at_ 601 x.f9 else (code, at_)) := by simp [swOwn, hN0]
    rw [hw2] at hw;obtain ⟨r, hr⟩ : ∃ r, lastAt x.f5 env env.length = r := ⟨_, rfl⟩;rw [hr] at hw;have HV := zf.mk hw;have HR := zf.mk hr;have r5 := HX.out.X.cell 5 (v := .string x.f5) rfl;clear hk hw hw2 hke HK HOWN hN0 hr;go_wp2_with fail
    go_loopw [8] (fun v8 wr => ∃ (m : Nat), v8 = .int .i64 ((m : Int) - 1) ∧ m ≤ env.length ∧ zf (lastAt x.f5 env m = r) ∧ zf (SX (okAt ok w) w wr base g gn cap Ao co ops nn ns code at_ A env w.heap.size (nodeCells x).toArray (w.heap.size + 1) (yCells x x.f4))) (fun v8 _ => (intOf v8 + 1).toNat)
    case atStart => exact ⟨env.length, rfl, Nat.le_refl _, HR, HX⟩
    case round =>
     obtain ⟨m, rfl, hm, HM, HXR⟩ := hrel;clear r5 HX HR;cases m with
     | zero =>
      have hm0 := HM.out;rw [lastAt] at hm0;subst hm0;have hv := HV.out;rw [if_pos (by decide)] at hv;have hv2 : (env.length : Int) - 1 - (-1) = v ∧ failC code at_ 601 x.f9 = (c1, a1) := Prod.mk.inj hv;obtain ⟨rfl, hf⟩ := hv2;have HFC := zf.mk hf;have g0 : decide ((((0 : Nat) : Int) - 1) ≥ 0) = false := by decide
      have r5 := HXR.out.X.cell 5 (v := .string x.f5) rfl;clear HM hv hf HV;go_wp2_with fail
      go_quiet (fail)
      have HX := zf.mk (HXR.out.below (zg (Below.refl _ _) nq));have r9 := HX.out.X.cell 9 (v := .int .i64 x.f9) rfl;clear HXR r5;go_wp2_with fail
      refine (zkt g gn cap Ao co ops nn ns code at_ 601 x.f9 (okAt ok w) base _ HOK1.out HX.out.sw).mono ?_;rintro e wf ⟨rfl, hsf, hff⟩;rw [HFC.out] at hsf;have HXF := zf.mk (HX.out.call HOK1.out hsf hff);clear hsf hff HX r9;have r4 := HXF.out.Y.cell 4 (v := .int .i64 x.f4) rfl;have r4f := HXF.out.Y.froz 4;go_wp2_with fail
      go_meet
      case rel => rw [show ((env.length : Int) - 1 - (-1)) = (env.length : Int) from by omega]; exact ⟨HXF.out.putY (csy' := yCells x _) HOKY.out (by omega) (by omega) 4 _ rfl⟩
     | succ p =>
      have hm0 := HM.out;rw [lastAt] at hm0;have hA := Kd.zf6 (Kd.zgs HXR.out.env) (p : Int) (by omega) (by omega);obtain ⟨ad, rfl, hel⟩ := hA;rw [Int.toNat_natCast] at hel;have r5 := HXR.out.X.cell 5 (v := .string x.f5) rfl;have g0 : decide ((((p + 1 : Nat) : Int) - 1) ≥ 0) = true := decide_eq_true (by omega);have g1 : (((p + 1 : Nat) : Int) - 1) = (p : Int) := by omega
      have HM0 := zf.mk hm0;rw [g1] at g0 ⊢;have hp2 : p < env.length := by omega
      generalize rdOf ByteArray.empty env p = y at *;by_cases hb : y.toList = x.f5.toList
      ·
       have hq := HM0.out;rw [if_pos hb] at hq;subst hq;have b1 : (y.toList == x.f5.toList) = true := beq_iff_eq.mpr hb;have b2 : (y.toList != x.f5.toList) = false := by rw [bne, b1]; rfl
       have hv := HV.out;rw [if_neg (by omega)] at hv;have hv2 : (env.length : Int) - 1 - (p : Int) = v ∧ code = c1 ∧ at_ = a1 := by simpa using hv
       obtain ⟨rfl, rfl, rfl⟩ := hv2;have l0 : decide ((p : Int) < 0) = false := decide_eq_false (by omega);clear HM HM0 hm0 hv hb HV g1;go_wp2_with fail
       go_quiet (fail)
       have HX := zf.mk (HXR.out.below (zg (Below.refl _ _) nq));have r4 := HX.out.Y.cell 4 (v := .int .i64 x.f4) rfl;have r4f := HX.out.Y.froz 4;clear HXR r5;go_wp2_with fail
       go_meet
       case rel => exact ⟨HX.out.putY (csy' := yCells x _) HOKY.out (by omega) (by omega) 4 _ rfl⟩
      ·
       have hq := HM0.out;rw [if_neg hb] at hq;have b1 : (y.toList == x.f5.toList) = false := beq_eq_false_iff_ne.mpr hb;have b2 : (y.toList != x.f5.toList) = true := by rw [bne, b1]; rfl
       have HQ := zf.mk hq;clear HM HM0 hm0 hb g1 hq;go_wp2_with fail
       go_quiet (fail)
       have HX := zf.mk (HXR.out.below (zg (Below.refl _ _) nq));clear HXR r5;go_wp2_with fail
       go_roundw
       case rel => exact ⟨p, by go_num, by omega, HQ, HX⟩
       case measure => simp [intOf] <;> omega
   by_cases hN3 : x.f0 = 3
   ·
    have q0 : (x.f0 == 0) = false := by rw [hN3]; rfl
    have q3 : (x.f0 == 3) = true := by rw [hN3]; rfl
    have hke : kidsE x = [(x.f1, [x.f6])] := by simp [kidsE, hN3]
    have hk := HK.out;rw [hke] at hk;have hw := HOWN.out;have hw2 : swOwn ops x env code at_ = (x.f4, (code, at_)) := by simp [swOwn, hN3]
    rw [hw2] at hw;simp only [Prod.mk.injEq] at hw;obtain ⟨rfl, rfl, rfl⟩ := hw;clear hw2 hke HK HOWN hN3;replace hk := Option.bind_eq_some_iff.mp hk;obtain ⟨⟨n0, d0, b0⟩, hk0, hk⟩ := hk;have HKD := zf.mk hk0;have HKR := zf.mk hk;clear hk hk0;obtain ⟨wa, hwa⟩ : ∃ wa, wa = w1 := ⟨_, rfl⟩;skip
    have S0 : w1.cell? ⟨w.heap.size, 1, none⟩ = some (.int .i64 x.f1) ∧ w1.cell? ⟨w.heap.size, 6, none⟩ = some (.string x.f6) := ⟨HX.out.X.cell 1 rfl, HX.out.X.cell 6 rfl⟩;have hbw : w.heap.size < w1.heap.size := HX.out.X.lt;go_wp2_with fail
    go_region_held3 (fun w' => w'.cell? ⟨w.heap.size, 1, none⟩ = some (.int .i64 x.f1) ∧ w'.cell? ⟨w.heap.size, 6, none⟩ = some (.string x.f6)) (first | go_keep | exact S0 | exact S1.out | exact S2.out)
     ((first
      | (go_at_call 47; refine (Vm.calls A c env _ _ [x.f6] (env ++ [x.f6]) _ ?g0 HC.out ?g1 (Nat.le_refl _) (zfd env [x.f6] (by simp; omega))).mono ?_; (case g0 => exact Kd.zgs (Kd.zc1 HX.out.env _)); (case g1 => exact strsC (zfj rfl _) (by simp)); rintro e wb ⟨vb, rfl, hr, hb⟩; obtain ⟨Ab, cb, rfl, hle, _⟩ := Kd.zde hr; have hb : Below w1.heap.size w1 wb := ((Yw (Below.refl _ _)).alloc (Nat.le_refl _) _).trans (hb.mono (by simp)); have HLE := zf.mk hle; have E1 := zf.mk (Kd.zgj (Kd.R_F (Kd.zbd hr)) (fun k hk c => by have h1 := HX.out.sw.lt k c; have h2 := hk.2.1; simp at h2; omega) : Kd.F Kd.string wb (fun k => ¬ own2 g gn k) Ab (env ++ [x.f6]).length (env ++ [x.f6])); have HXB := zf.mk (HX.out.below hb); have S1 := zf.mk (show wb.cell? ⟨w.heap.size, 1, none⟩ = some (.int .i64 x.f1) ∧ wb.cell? ⟨w.heap.size, 6, none⟩ = some (.string x.f6) from ⟨HXB.out.X.cell 1 rfl, HXB.out.X.cell 6 rfl⟩); clear hr hle hb)
      | (go_at_call 23; rw [show env.length + 1 = (env ++ [x.f6]).length from by simp]; (refine (IH.out (fun k => ¬ own2 g gn k) g gn cap nn Ao co ops _ _ _ x.f1 Ab cb (env ++ [x.f6]) n0 d0 b0 base wb (fun _ h => h) (HXB.out.sw.mono HOK1.out) E1.out HLE.out HKD.out).mono ?_); rintro e w2 ⟨rfl, hs0, hf0⟩; have HX2 := zf.mk (HXB.out.call HOK1.out hs0 hf0); have S2 := zf.mk (show w2.cell? ⟨w.heap.size, 1, none⟩ = some (.int .i64 x.f1) ∧ w2.cell? ⟨w.heap.size, 6, none⟩ = some (.string x.f6) from ⟨HX2.out.X.cell 1 rfl, HX2.out.X.cell 6 rfl⟩); clear hs0 hf0)))
    clear HX HKD S0 S1 S2 HXB E1 HLE hbw;have HX := HX2;clear HX2;have hk := HKR.out;clear HKR;have hk2 : some _ = some _ := hk;simp only [Option.some.injEq, Prod.mk.injEq] at hk2;obtain ⟨rfl, rfl, rfl⟩ := hk2;clear hk;go_wp2_with fail
    go_meet
    case rel => exact HX
   by_cases hN5 : x.f0 = 5
   ·
    have q0 : (x.f0 == 0) = false := by rw [hN5]; rfl
    have q3 : (x.f0 == 3) = false := by rw [hN5]; rfl
    have q5 : (x.f0 == 5) = true := by rw [hN5]; rfl
    have hke : kidsE x = [(x.f1, []), (x.f2, [x.f6])] := by simp [kidsE, hN5]
    have hk := HK.out;rw [hke] at hk;have hw := HOWN.out;have hw2 : swOwn ops x env code at_ = (x.f4, (code, at_)) := by simp [swOwn, hN5]
    rw [hw2] at hw;simp only [Prod.mk.injEq] at hw;obtain ⟨rfl, rfl, rfl⟩ := hw;clear hw2 hke HK HOWN hN5;replace hk := Option.bind_eq_some_iff.mp hk;obtain ⟨⟨n0, d0, b0⟩, hk0, hk⟩ := hk;rw [List.append_nil] at hk0;have HKD := zf.mk hk0;have HKR := zf.mk hk;clear hk hk0;have q1 := HX.out.X.cell 1 (v := .int .i64 x.f1) rfl;go_wp2_with fail
    refine (IH.out (okAt ok w) g gn cap nn Ao co ops _ _ _ x.f1 A c env n0 d0 b0 base _ HOK1.out HX.out.sw HX.out.env HC.out HKD.out).mono ?_;rintro e w2 ⟨rfl, hs0, hf0⟩;have HX2 := zf.mk (HX.out.call HOK1.out hs0 hf0);clear hs0 hf0 q1 HX HKD;have HX := HX2;clear HX2;have hk := HKR.out;clear HKR;replace hk := Option.bind_eq_some_iff.mp hk;obtain ⟨⟨n1, d1, b1⟩, hk1, hk⟩ := hk;have HKD := zf.mk hk1;have HKR := zf.mk hk;clear hk hk1;obtain ⟨wa, hwa⟩ : ∃ wa, wa = w2 := ⟨_, rfl⟩;skip
    have S0 : w2.cell? ⟨w.heap.size, 2, none⟩ = some (.int .i64 x.f2) ∧ w2.cell? ⟨w.heap.size, 6, none⟩ = some (.string x.f6) := ⟨HX.out.X.cell 2 rfl, HX.out.X.cell 6 rfl⟩;have hbw : w.heap.size < w2.heap.size := HX.out.X.lt;go_wp2_with fail
    go_region_held3 (fun w' => w'.cell? ⟨w.heap.size, 2, none⟩ = some (.int .i64 x.f2) ∧ w'.cell? ⟨w.heap.size, 6, none⟩ = some (.string x.f6)) (first | go_keep | exact S0 | exact S1.out | exact S2.out)
     ((first
      | (go_at_call 47; refine (Vm.calls A c env _ _ [x.f6] (env ++ [x.f6]) _ ?g0 HC.out ?g1 (Nat.le_refl _) (zfd env [x.f6] (by simp; omega))).mono ?_; (case g0 => exact Kd.zgs (Kd.zc1 HX.out.env _)); (case g1 => exact strsC (zfj rfl _) (by simp)); rintro e wb ⟨vb, rfl, hr, hb⟩; obtain ⟨Ab, cb, rfl, hle, _⟩ := Kd.zde hr; have hb : Below w2.heap.size w2 wb := ((Yw (Below.refl _ _)).alloc (Nat.le_refl _) _).trans (hb.mono (by simp)); have HLE := zf.mk hle; have E1 := zf.mk (Kd.zgj (Kd.R_F (Kd.zbd hr)) (fun k hk c => by have h1 := HX.out.sw.lt k c; have h2 := hk.2.1; simp at h2; omega) : Kd.F Kd.string wb (fun k => ¬ own2 g gn k) Ab (env ++ [x.f6]).length (env ++ [x.f6])); have HXB := zf.mk (HX.out.below hb); have S1 := zf.mk (show wb.cell? ⟨w.heap.size, 2, none⟩ = some (.int .i64 x.f2) ∧ wb.cell? ⟨w.heap.size, 6, none⟩ = some (.string x.f6) from ⟨HXB.out.X.cell 2 rfl, HXB.out.X.cell 6 rfl⟩); clear hr hle hb)
      | (go_at_call 23; rw [show env.length + 1 = (env ++ [x.f6]).length from by simp]; (refine (IH.out (fun k => ¬ own2 g gn k) g gn cap nn Ao co ops _ _ _ x.f2 Ab cb (env ++ [x.f6]) n1 d1 b1 base wb (fun _ h => h) (HXB.out.sw.mono HOK1.out) E1.out HLE.out HKD.out).mono ?_); rintro e w3 ⟨rfl, hs1, hf1⟩; have HX2 := zf.mk (HXB.out.call HOK1.out hs1 hf1); have S2 := zf.mk (show w3.cell? ⟨w.heap.size, 2, none⟩ = some (.int .i64 x.f2) ∧ w3.cell? ⟨w.heap.size, 6, none⟩ = some (.string x.f6) from ⟨HX2.out.X.cell 2 rfl, HX2.out.X.cell 6 rfl⟩); clear hs1 hf1)))
    clear HX HKD S0 S1 S2 HXB E1 HLE hbw;have HX := HX2;clear HX2;have hk := HKR.out;clear HKR;have hk2 : some _ = some _ := hk;simp only [Option.some.injEq, Prod.mk.injEq] at hk2;obtain ⟨rfl, rfl, rfl⟩ := hk2;clear hk;go_wp2_with fail
    go_meet
    case rel => exact HX
   by_cases hN6 : x.f0 = 6
   ·
    have q0 : (x.f0 == 0) = false := by rw [hN6]; rfl
    have q3 : (x.f0 == 3) = false := by rw [hN6]; rfl
    have q5 : (x.f0 == 5) = false := by rw [hN6]; rfl
    have q6 : (x.f0 == 6) = true := by rw [hN6]; rfl
    have hke : kidsE x = [(x.f1, [x.f6, x.f7]), (x.f2, [x.f6])] := by simp [kidsE, hN6]
    have hk := HK.out;rw [hke] at hk;have hw := HOWN.out;have hw2 : swOwn ops x env code at_ = (x.f4, (code, at_)) := by simp [swOwn, hN6]
    rw [hw2] at hw;simp only [Prod.mk.injEq] at hw;obtain ⟨rfl, rfl, rfl⟩ := hw;clear hw2 hke HK HOWN hN6;replace hk := Option.bind_eq_some_iff.mp hk;obtain ⟨⟨n0, d0, b0⟩, hk0, hk⟩ := hk;have HKD := zf.mk hk0;have HKR := zf.mk hk;clear hk hk0;obtain ⟨wa, hwa⟩ : ∃ wa, wa = w1 := ⟨_, rfl⟩;skip
    have S0 : w1.cell? ⟨w.heap.size, 1, none⟩ = some (.int .i64 x.f1) ∧ w1.cell? ⟨w.heap.size, 6, none⟩ = some (.string x.f6) ∧ w1.cell? ⟨w.heap.size, 7, none⟩ = some (.string x.f7) := ⟨HX.out.X.cell 1 rfl, HX.out.X.cell 6 rfl, HX.out.X.cell 7 rfl⟩;have hbw : w.heap.size < w1.heap.size := HX.out.X.lt;go_wp2_with fail
    go_region_held3 (fun w' => w'.cell? ⟨w.heap.size, 1, none⟩ = some (.int .i64 x.f1) ∧ w'.cell? ⟨w.heap.size, 6, none⟩ = some (.string x.f6) ∧ w'.cell? ⟨w.heap.size, 7, none⟩ = some (.string x.f7)) (first | go_keep | exact S0 | exact S1.out | exact S2.out)
     ((first
      | (go_at_call 47; refine (Vm.calls A c env _ _ [x.f6, x.f7] (env ++ [x.f6, x.f7]) _ ?g0 HC.out ?g1 (Nat.le_refl _) (zfd env [x.f6, x.f7] (by simp; omega))).mono ?_; (case g0 => exact Kd.zgs (Kd.zc1 HX.out.env _)); (case g1 => exact strsC (zfj rfl _) (by simp)); rintro e wb ⟨vb, rfl, hr, hb⟩; obtain ⟨Ab, cb, rfl, hle, _⟩ := Kd.zde hr; have hb : Below w1.heap.size w1 wb := ((Yw (Below.refl _ _)).alloc (Nat.le_refl _) _).trans (hb.mono (by simp)); have HLE := zf.mk hle; have E1 := zf.mk (Kd.zgj (Kd.R_F (Kd.zbd hr)) (fun k hk c => by have h1 := HX.out.sw.lt k c; have h2 := hk.2.1; simp at h2; omega) : Kd.F Kd.string wb (fun k => ¬ own2 g gn k) Ab (env ++ [x.f6, x.f7]).length (env ++ [x.f6, x.f7])); have HXB := zf.mk (HX.out.below hb); have S1 := zf.mk (show wb.cell? ⟨w.heap.size, 1, none⟩ = some (.int .i64 x.f1) ∧ wb.cell? ⟨w.heap.size, 6, none⟩ = some (.string x.f6) ∧ wb.cell? ⟨w.heap.size, 7, none⟩ = some (.string x.f7) from ⟨HXB.out.X.cell 1 rfl, HXB.out.X.cell 6 rfl, HXB.out.X.cell 7 rfl⟩); clear hr hle hb)
      | (go_at_call 23; rw [show env.length + 2 = (env ++ [x.f6, x.f7]).length from by simp]; (refine (IH.out (fun k => ¬ own2 g gn k) g gn cap nn Ao co ops _ _ _ x.f1 Ab cb (env ++ [x.f6, x.f7]) n0 d0 b0 base wb (fun _ h => h) (HXB.out.sw.mono HOK1.out) E1.out HLE.out HKD.out).mono ?_); rintro e w2 ⟨rfl, hs0, hf0⟩; have HX2 := zf.mk (HXB.out.call HOK1.out hs0 hf0); have S2 := zf.mk (show w2.cell? ⟨w.heap.size, 1, none⟩ = some (.int .i64 x.f1) ∧ w2.cell? ⟨w.heap.size, 6, none⟩ = some (.string x.f6) ∧ w2.cell? ⟨w.heap.size, 7, none⟩ = some (.string x.f7) from ⟨HX2.out.X.cell 1 rfl, HX2.out.X.cell 6 rfl, HX2.out.X.cell 7 rfl⟩); clear hs0 hf0)))
    clear HX HKD S0 S1 S2 HXB E1 HLE hbw;have HX := HX2;clear HX2;have hk := HKR.out;clear HKR;replace hk := Option.bind_eq_some_iff.mp hk;obtain ⟨⟨n1, d1, b1⟩, hk1, hk⟩ := hk;have HKD := zf.mk hk1;have HKR := zf.mk hk;clear hk hk1;obtain ⟨wa, hwa⟩ : ∃ wa, wa = w2 := ⟨_, rfl⟩;skip
    have S0 : w2.cell? ⟨w.heap.size, 2, none⟩ = some (.int .i64 x.f2) ∧ w2.cell? ⟨w.heap.size, 6, none⟩ = some (.string x.f6) := ⟨HX.out.X.cell 2 rfl, HX.out.X.cell 6 rfl⟩;have hbw : w.heap.size < w2.heap.size := HX.out.X.lt;go_wp2_with fail
    go_region_held3 (fun w' => w'.cell? ⟨w.heap.size, 2, none⟩ = some (.int .i64 x.f2) ∧ w'.cell? ⟨w.heap.size, 6, none⟩ = some (.string x.f6)) (first | go_keep | exact S0 | exact S1.out | exact S2.out)
     ((first
      | (go_at_call 47; refine (Vm.calls A c env _ _ [x.f6] (env ++ [x.f6]) _ ?g0 HC.out ?g1 (Nat.le_refl _) (zfd env [x.f6] (by simp; omega))).mono ?_; (case g0 => exact Kd.zgs (Kd.zc1 HX.out.env _)); (case g1 => exact strsC (zfj rfl _) (by simp)); rintro e wb ⟨vb, rfl, hr, hb⟩; obtain ⟨Ab, cb, rfl, hle, _⟩ := Kd.zde hr; have hb : Below w2.heap.size w2 wb := ((Yw (Below.refl _ _)).alloc (Nat.le_refl _) _).trans (hb.mono (by simp)); have HLE := zf.mk hle; have E1 := zf.mk (Kd.zgj (Kd.R_F (Kd.zbd hr)) (fun k hk c => by have h1 := HX.out.sw.lt k c; have h2 := hk.2.1; simp at h2; omega) : Kd.F Kd.string wb (fun k => ¬ own2 g gn k) Ab (env ++ [x.f6]).length (env ++ [x.f6])); have HXB := zf.mk (HX.out.below hb); have S1 := zf.mk (show wb.cell? ⟨w.heap.size, 2, none⟩ = some (.int .i64 x.f2) ∧ wb.cell? ⟨w.heap.size, 6, none⟩ = some (.string x.f6) from ⟨HXB.out.X.cell 2 rfl, HXB.out.X.cell 6 rfl⟩); clear hr hle hb)
      | (go_at_call 23; rw [show env.length + 1 = (env ++ [x.f6]).length from by simp]; (refine (IH.out (fun k => ¬ own2 g gn k) g gn cap nn Ao co ops _ _ _ x.f2 Ab cb (env ++ [x.f6]) n1 d1 b1 base wb (fun _ h => h) (HXB.out.sw.mono HOK1.out) E1.out HLE.out HKD.out).mono ?_); rintro e w3 ⟨rfl, hs1, hf1⟩; have HX2 := zf.mk (HXB.out.call HOK1.out hs1 hf1); have S2 := zf.mk (show w3.cell? ⟨w.heap.size, 2, none⟩ = some (.int .i64 x.f2) ∧ w3.cell? ⟨w.heap.size, 6, none⟩ = some (.string x.f6) from ⟨HX2.out.X.cell 2 rfl, HX2.out.X.cell 6 rfl⟩); clear hs1 hf1)))
    clear HX HKD S0 S1 S2 HXB E1 HLE hbw;have HX := HX2;clear HX2;have hk := HKR.out;clear HKR;have hk2 : some _ = some _ := hk;simp only [Option.some.injEq, Prod.mk.injEq] at hk2;obtain ⟨rfl, rfl, rfl⟩ := hk2;clear hk;go_wp2_with fail
    go_meet
    case rel => exact HX
   by_cases hN9 : x.f0 = 9
   ·
    have q0 : (x.f0 == 0) = false := by rw [hN9]; rfl
    have q3 : (x.f0 == 3) = false := by rw [hN9]; rfl
    have q5 : (x.f0 == 5) = false := by rw [hN9]; rfl
    have q6 : (x.f0 == 6) = false := by rw [hN9]; rfl
    have q9 : (x.f0 == 9) = true := by rw [hN9]; rfl
    have hke : kidsE x = [(x.f1, [])] := by simp [kidsE, hN9]
    have hk := HK.out;rw [hke] at hk;have hw := HOWN.out;have hw2 : swOwn ops x env code at_ = (if opIdx x.f5 ops 0 < 0 then (0, failC code at_ 602 x.f9) else (opIdx x.f5 ops 0, (code, at_))) := by simp [swOwn, hN9]
    rw [hw2] at hw;have HV := zf.mk hw;have HKO := zf.mk hk;clear hw hw2 hke HK HOWN hN9 hk;have r5 := HX.out.X.cell 5 (v := .string x.f5) rfl;have r9 := HX.out.X.cell 9 (v := .int .i64 x.f9) rfl;have HXO := zf.mk HX.out;go_wp2_with fail
    refine (zni g gn cap Ao co ops nn ns code at_ x.f9 x.f5 (okAt ok w) base _ h4 HOK1.out HXO.out.sw v (c1, a1) HV.out).mono ?_;rintro e wo ⟨rfl, hso, hfo⟩;have HXP := zf.mk (HXO.out.call HOK1.out hso hfo);clear hso hfo r5 r9 HX HXO HV;have r4 := HXP.out.Y.cell 4 (v := .int .i64 x.f4) rfl;have r4f := HXP.out.Y.froz 4;have HX := zf.mk (HXP.out.putY (csy' := yCells x v) HOKY.out (by omega) (by omega) 4 (.int .i64 v) rfl);have hk := HKO.out;clear HKO HXP;replace hk := Option.bind_eq_some_iff.mp hk;obtain ⟨⟨n0, d0, b0⟩, hk0, hk⟩ := hk;rw [List.append_nil] at hk0;have HKD := zf.mk hk0;have HKR := zf.mk hk;clear hk hk0;have q1 := HX.out.X.cell 1 (v := .int .i64 x.f1) rfl;go_wp2_with fail
    refine (IH.out (okAt ok w) g gn cap nn Ao co ops _ _ _ x.f1 A c env n0 d0 b0 base _ HOK1.out HX.out.sw HX.out.env HC.out HKD.out).mono ?_;rintro e w2 ⟨rfl, hs0, hf0⟩;have HX2 := zf.mk (HX.out.call HOK1.out hs0 hf0);clear hs0 hf0 q1 HX HKD;have HX := HX2;clear HX2;have hk := HKR.out;clear HKR;have hk2 : some _ = some _ := hk;simp only [Option.some.injEq, Prod.mk.injEq] at hk2;obtain ⟨rfl, rfl, rfl⟩ := hk2;clear hk;go_wp2_with fail
    go_meet
    case rel => exact HX
   by_cases hN10 : x.f0 = 10
   ·
    have q0 : (x.f0 == 0) = false := by rw [hN10]; rfl
    have q3 : (x.f0 == 3) = false := by rw [hN10]; rfl
    have q5 : (x.f0 == 5) = false := by rw [hN10]; rfl
    have q6 : (x.f0 == 6) = false := by rw [hN10]; rfl
    have q9 : (x.f0 == 9) = false := by rw [hN10]; rfl
    have q10 : (x.f0 == 10) = true := by rw [hN10]; rfl
    have hke : kidsE x = [(x.f1, []), (x.f2, [x.f6, x.f7]), (x.f3, [x.f8])] := by simp [kidsE, hN10]
    have hk := HK.out;rw [hke] at hk;have hw := HOWN.out;have hw2 : swOwn ops x env code at_ = (if opIdx x.f5 ops 0 < 0 then (0, failC code at_ 602 x.f9) else (opIdx x.f5 ops 0, (code, at_))) := by simp [swOwn, hN10]
    rw [hw2] at hw;have HV := zf.mk hw;have HKO := zf.mk hk;clear hw hw2 hke HK HOWN hN10 hk;have r5 := HX.out.X.cell 5 (v := .string x.f5) rfl;have r9 := HX.out.X.cell 9 (v := .int .i64 x.f9) rfl;have HXO := zf.mk HX.out;go_wp2_with fail
    refine (zni g gn cap Ao co ops nn ns code at_ x.f9 x.f5 (okAt ok w) base _ h4 HOK1.out HXO.out.sw v (c1, a1) HV.out).mono ?_;rintro e wo ⟨rfl, hso, hfo⟩;have HXP := zf.mk (HXO.out.call HOK1.out hso hfo);clear hso hfo r5 r9 HX HXO HV;have r4 := HXP.out.Y.cell 4 (v := .int .i64 x.f4) rfl;have r4f := HXP.out.Y.froz 4;have HX := zf.mk (HXP.out.putY (csy' := yCells x v) HOKY.out (by omega) (by omega) 4 (.int .i64 v) rfl);have hk := HKO.out;clear HKO HXP;replace hk := Option.bind_eq_some_iff.mp hk;obtain ⟨⟨n0, d0, b0⟩, hk0, hk⟩ := hk;rw [List.append_nil] at hk0;have HKD := zf.mk hk0;have HKR := zf.mk hk;clear hk hk0;have q1 := HX.out.X.cell 1 (v := .int .i64 x.f1) rfl;go_wp2_with fail
    refine (IH.out (okAt ok w) g gn cap nn Ao co ops _ _ _ x.f1 A c env n0 d0 b0 base _ HOK1.out HX.out.sw HX.out.env HC.out HKD.out).mono ?_;rintro e w2 ⟨rfl, hs0, hf0⟩;have HX2 := zf.mk (HX.out.call HOK1.out hs0 hf0);clear hs0 hf0 q1 HX HKD;have HX := HX2;clear HX2;have hk := HKR.out;clear HKR;replace hk := Option.bind_eq_some_iff.mp hk;obtain ⟨⟨n1, d1, b1⟩, hk1, hk⟩ := hk;have HKD := zf.mk hk1;have HKR := zf.mk hk;clear hk hk1;obtain ⟨wa, hwa⟩ : ∃ wa, wa = w2 := ⟨_, rfl⟩;skip
    have S0 : w2.cell? ⟨w.heap.size, 2, none⟩ = some (.int .i64 x.f2) ∧ w2.cell? ⟨w.heap.size, 6, none⟩ = some (.string x.f6) ∧ w2.cell? ⟨w.heap.size, 7, none⟩ = some (.string x.f7) := ⟨HX.out.X.cell 2 rfl, HX.out.X.cell 6 rfl, HX.out.X.cell 7 rfl⟩;have hbw : w.heap.size < w2.heap.size := HX.out.X.lt;go_wp2_with fail
    go_region_held3 (fun w' => w'.cell? ⟨w.heap.size, 2, none⟩ = some (.int .i64 x.f2) ∧ w'.cell? ⟨w.heap.size, 6, none⟩ = some (.string x.f6) ∧ w'.cell? ⟨w.heap.size, 7, none⟩ = some (.string x.f7)) (first | go_keep | exact S0 | exact S1.out | exact S2.out)
     ((first
      | (go_at_call 47; refine (Vm.calls A c env _ _ [x.f6, x.f7] (env ++ [x.f6, x.f7]) _ ?g0 HC.out ?g1 (Nat.le_refl _) (zfd env [x.f6, x.f7] (by simp; omega))).mono ?_; (case g0 => exact Kd.zgs (Kd.zc1 HX.out.env _)); (case g1 => exact strsC (zfj rfl _) (by simp)); rintro e wb ⟨vb, rfl, hr, hb⟩; obtain ⟨Ab, cb, rfl, hle, _⟩ := Kd.zde hr; have hb : Below w2.heap.size w2 wb := ((Yw (Below.refl _ _)).alloc (Nat.le_refl _) _).trans (hb.mono (by simp)); have HLE := zf.mk hle; have E1 := zf.mk (Kd.zgj (Kd.R_F (Kd.zbd hr)) (fun k hk c => by have h1 := HX.out.sw.lt k c; have h2 := hk.2.1; simp at h2; omega) : Kd.F Kd.string wb (fun k => ¬ own2 g gn k) Ab (env ++ [x.f6, x.f7]).length (env ++ [x.f6, x.f7])); have HXB := zf.mk (HX.out.below hb); have S1 := zf.mk (show wb.cell? ⟨w.heap.size, 2, none⟩ = some (.int .i64 x.f2) ∧ wb.cell? ⟨w.heap.size, 6, none⟩ = some (.string x.f6) ∧ wb.cell? ⟨w.heap.size, 7, none⟩ = some (.string x.f7) from ⟨HXB.out.X.cell 2 rfl, HXB.out.X.cell 6 rfl, HXB.out.X.cell 7 rfl⟩); clear hr hle hb)
      | (go_at_call 23; rw [show env.length + 2 = (env ++ [x.f6, x.f7]).length from by simp]; (refine (IH.out (fun k => ¬ own2 g gn k) g gn cap nn Ao co ops _ _ _ x.f2 Ab cb (env ++ [x.f6, x.f7]) n1 d1 b1 base wb (fun _ h => h) (HXB.out.sw.mono HOK1.out) E1.out HLE.out HKD.out).mono ?_); rintro e w3 ⟨rfl, hs1, hf1⟩; have HX2 := zf.mk (HXB.out.call HOK1.out hs1 hf1); have S2 := zf.mk (show w3.cell? ⟨w.heap.size, 2, none⟩ = some (.int .i64 x.f2) ∧ w3.cell? ⟨w.heap.size, 6, none⟩ = some (.string x.f6) ∧ w3.cell? ⟨w.heap.size, 7, none⟩ = some (.string x.f7) from ⟨HX2.out.X.cell 2 rfl, HX2.out.X.cell 6 rfl, HX2.out.X.cell 7 rfl⟩); clear hs1 hf1)))
    clear HX HKD S0 S1 S2 HXB E1 HLE hbw;have HX := HX2;clear HX2;have hk := HKR.out;clear HKR;replace hk := Option.bind_eq_some_iff.mp hk;obtain ⟨⟨n2, d2, b2⟩, hk2, hk⟩ := hk;have HKD := zf.mk hk2;have HKR := zf.mk hk;clear hk hk2;obtain ⟨wa, hwa⟩ : ∃ wa, wa = w3 := ⟨_, rfl⟩;skip
    have S0 : w3.cell? ⟨w.heap.size, 3, none⟩ = some (.int .i64 x.f3) ∧ w3.cell? ⟨w.heap.size, 8, none⟩ = some (.string x.f8) := ⟨HX.out.X.cell 3 rfl, HX.out.X.cell 8 rfl⟩;have hbw : w.heap.size < w3.heap.size := HX.out.X.lt;go_wp2_with fail
    go_region_held3 (fun w' => w'.cell? ⟨w.heap.size, 3, none⟩ = some (.int .i64 x.f3) ∧ w'.cell? ⟨w.heap.size, 8, none⟩ = some (.string x.f8)) (first | go_keep | exact S0 | exact S1.out | exact S2.out)
     ((first
      | (go_at_call 47; refine (Vm.calls A c env _ _ [x.f8] (env ++ [x.f8]) _ ?g0 HC.out ?g1 (Nat.le_refl _) (zfd env [x.f8] (by simp; omega))).mono ?_; (case g0 => exact Kd.zgs (Kd.zc1 HX.out.env _)); (case g1 => exact strsC (zfj rfl _) (by simp)); rintro e wb ⟨vb, rfl, hr, hb⟩; obtain ⟨Ab, cb, rfl, hle, _⟩ := Kd.zde hr; have hb : Below w3.heap.size w3 wb := ((Yw (Below.refl _ _)).alloc (Nat.le_refl _) _).trans (hb.mono (by simp)); have HLE := zf.mk hle; have E1 := zf.mk (Kd.zgj (Kd.R_F (Kd.zbd hr)) (fun k hk c => by have h1 := HX.out.sw.lt k c; have h2 := hk.2.1; simp at h2; omega) : Kd.F Kd.string wb (fun k => ¬ own2 g gn k) Ab (env ++ [x.f8]).length (env ++ [x.f8])); have HXB := zf.mk (HX.out.below hb); have S1 := zf.mk (show wb.cell? ⟨w.heap.size, 3, none⟩ = some (.int .i64 x.f3) ∧ wb.cell? ⟨w.heap.size, 8, none⟩ = some (.string x.f8) from ⟨HXB.out.X.cell 3 rfl, HXB.out.X.cell 8 rfl⟩); clear hr hle hb)
      | (go_at_call 23; rw [show env.length + 1 = (env ++ [x.f8]).length from by simp]; (refine (IH.out (fun k => ¬ own2 g gn k) g gn cap nn Ao co ops _ _ _ x.f3 Ab cb (env ++ [x.f8]) n2 d2 b2 base wb (fun _ h => h) (HXB.out.sw.mono HOK1.out) E1.out HLE.out HKD.out).mono ?_); rintro e w4 ⟨rfl, hs2, hf2⟩; have HX2 := zf.mk (HXB.out.call HOK1.out hs2 hf2); have S2 := zf.mk (show w4.cell? ⟨w.heap.size, 3, none⟩ = some (.int .i64 x.f3) ∧ w4.cell? ⟨w.heap.size, 8, none⟩ = some (.string x.f8) from ⟨HX2.out.X.cell 3 rfl, HX2.out.X.cell 8 rfl⟩); clear hs2 hf2)))
    clear HX HKD S0 S1 S2 HXB E1 HLE hbw;have HX := HX2;clear HX2;have hk := HKR.out;clear HKR;have hk2 : some _ = some _ := hk;simp only [Option.some.injEq, Prod.mk.injEq] at hk2;obtain ⟨rfl, rfl, rfl⟩ := hk2;clear hk;go_wp2_with fail
    go_meet
    case rel => exact HX
   by_cases hN4 : x.f0 = 4
   ·
    have q0 : (x.f0 == 0) = false := by rw [hN4]; rfl
    have q3 : (x.f0 == 3) = false := by rw [hN4]; rfl
    have q5 : (x.f0 == 5) = false := by rw [hN4]; rfl
    have q6 : (x.f0 == 6) = false := by rw [hN4]; rfl
    have q9 : (x.f0 == 9) = false := by rw [hN4]; rfl
    have q10 : (x.f0 == 10) = false := by rw [hN4]; rfl
    have q4 : (x.f0 == 4) = true := by rw [hN4]; rfl
    have hke : kidsE x = [(x.f1, []), (x.f2, [])] := by simp [kidsE, hN4]
    have hk := HK.out;rw [hke] at hk;have hw := HOWN.out;have hw2 : swOwn ops x env code at_ = (x.f4, (code, at_)) := by simp [swOwn, hN4]
    rw [hw2] at hw;simp only [Prod.mk.injEq] at hw;obtain ⟨rfl, rfl, rfl⟩ := hw;clear hw2 hke HK HOWN hN4;replace hk := Option.bind_eq_some_iff.mp hk;obtain ⟨⟨n0, d0, b0⟩, hk0, hk⟩ := hk;rw [List.append_nil] at hk0;have HKD := zf.mk hk0;have HKR := zf.mk hk;clear hk hk0;have q1 := HX.out.X.cell 1 (v := .int .i64 x.f1) rfl;go_wp2_with fail
    refine (IH.out (okAt ok w) g gn cap nn Ao co ops _ _ _ x.f1 A c env n0 d0 b0 base _ HOK1.out HX.out.sw HX.out.env HC.out HKD.out).mono ?_;rintro e w2 ⟨rfl, hs0, hf0⟩;have HX2 := zf.mk (HX.out.call HOK1.out hs0 hf0);clear hs0 hf0 q1 HX HKD;have HX := HX2;clear HX2;have hk := HKR.out;clear HKR;replace hk := Option.bind_eq_some_iff.mp hk;obtain ⟨⟨n1, d1, b1⟩, hk1, hk⟩ := hk;rw [List.append_nil] at hk1;have HKD := zf.mk hk1;have HKR := zf.mk hk;clear hk hk1;have q2 := HX.out.X.cell 2 (v := .int .i64 x.f2) rfl;go_wp2_with fail
    refine (IH.out (okAt ok w) g gn cap nn Ao co ops _ _ _ x.f2 A c env n1 d1 b1 base _ HOK1.out HX.out.sw HX.out.env HC.out HKD.out).mono ?_;rintro e w3 ⟨rfl, hs1, hf1⟩;have HX2 := zf.mk (HX.out.call HOK1.out hs1 hf1);clear hs1 hf1 q2 HX HKD;have HX := HX2;clear HX2;have hk := HKR.out;clear HKR;have hk2 : some _ = some _ := hk;simp only [Option.some.injEq, Prod.mk.injEq] at hk2;obtain ⟨rfl, rfl, rfl⟩ := hk2;clear hk;go_wp2_with fail
    go_meet
    case rel => exact HX
   by_cases hN8 : x.f0 = 8
   ·
    have q0 : (x.f0 == 0) = false := by rw [hN8]; rfl
    have q3 : (x.f0 == 3) = false := by rw [hN8]; rfl
    have q5 : (x.f0 == 5) = false := by rw [hN8]; rfl
    have q6 : (x.f0 == 6) = false := by rw [hN8]; rfl
    have q9 : (x.f0 == 9) = false := by rw [hN8]; rfl
    have q10 : (x.f0 == 10) = false := by rw [hN8]; rfl
    have q4 : (x.f0 == 4) = false := by rw [hN8]; rfl
    have q8 : (x.f0 == 8) = true := by rw [hN8]; rfl
    have hke : kidsE x = [(x.f1, []), (x.f2, [])] := by simp [kidsE, hN8]
    have hk := HK.out;rw [hke] at hk;have hw := HOWN.out;have hw2 : swOwn ops x env code at_ = (x.f4, (code, at_)) := by simp [swOwn, hN8]
    rw [hw2] at hw;simp only [Prod.mk.injEq] at hw;obtain ⟨rfl, rfl, rfl⟩ := hw;clear hw2 hke HK HOWN hN8;replace hk := Option.bind_eq_some_iff.mp hk;obtain ⟨⟨n0, d0, b0⟩, hk0, hk⟩ := hk;rw [List.append_nil] at hk0;have HKD := zf.mk hk0;have HKR := zf.mk hk;clear hk hk0;have q1 := HX.out.X.cell 1 (v := .int .i64 x.f1) rfl;go_wp2_with fail
    refine (IH.out (okAt ok w) g gn cap nn Ao co ops _ _ _ x.f1 A c env n0 d0 b0 base _ HOK1.out HX.out.sw HX.out.env HC.out HKD.out).mono ?_;rintro e w2 ⟨rfl, hs0, hf0⟩;have HX2 := zf.mk (HX.out.call HOK1.out hs0 hf0);clear hs0 hf0 q1 HX HKD;have HX := HX2;clear HX2;have hk := HKR.out;clear HKR;replace hk := Option.bind_eq_some_iff.mp hk;obtain ⟨⟨n1, d1, b1⟩, hk1, hk⟩ := hk;rw [List.append_nil] at hk1;have HKD := zf.mk hk1;have HKR := zf.mk hk;clear hk hk1;have q2 := HX.out.X.cell 2 (v := .int .i64 x.f2) rfl;go_wp2_with fail
    refine (IH.out (okAt ok w) g gn cap nn Ao co ops _ _ _ x.f2 A c env n1 d1 b1 base _ HOK1.out HX.out.sw HX.out.env HC.out HKD.out).mono ?_;rintro e w3 ⟨rfl, hs1, hf1⟩;have HX2 := zf.mk (HX.out.call HOK1.out hs1 hf1);clear hs1 hf1 q2 HX HKD;have HX := HX2;clear HX2;have hk := HKR.out;clear HKR;have hk2 : some _ = some _ := hk;simp only [Option.some.injEq, Prod.mk.injEq] at hk2;obtain ⟨rfl, rfl, rfl⟩ := hk2;clear hk;go_wp2_with fail
    go_meet
    case rel => exact HX
   by_cases hN7 : x.f0 = 7
   ·
    have q0 : (x.f0 == 0) = false := by rw [hN7]; rfl
    have q3 : (x.f0 == 3) = false := by rw [hN7]; rfl
    have q5 : (x.f0 == 5) = false := by rw [hN7]; rfl
    have q6 : (x.f0 == 6) = false := by rw [hN7]; rfl
    have q9 : (x.f0 == 9) = false := by rw [hN7]; rfl
    have q10 : (x.f0 == 10) = false := by rw [hN7]; rfl
    have q4 : (x.f0 == 4) = false := by rw [hN7]; rfl
    have q8 : (x.f0 == 8) = false := by rw [hN7]; rfl
    have q7 : (x.f0 == 7) = true := by rw [hN7]; rfl
    have hke : kidsE x = [(x.f1, []), (x.f2, []), (x.f3, [])] := by simp [kidsE, hN7]
    have hk := HK.out;rw [hke] at hk;have hw := HOWN.out;have hw2 : swOwn ops x env code at_ = (x.f4, (code, at_)) := by simp [swOwn, hN7]
    rw [hw2] at hw;simp only [Prod.mk.injEq] at hw;obtain ⟨rfl, rfl, rfl⟩ := hw;clear hw2 hke HK HOWN hN7;replace hk := Option.bind_eq_some_iff.mp hk;obtain ⟨⟨n0, d0, b0⟩, hk0, hk⟩ := hk;rw [List.append_nil] at hk0;have HKD := zf.mk hk0;have HKR := zf.mk hk;clear hk hk0;have q1 := HX.out.X.cell 1 (v := .int .i64 x.f1) rfl;go_wp2_with fail
    refine (IH.out (okAt ok w) g gn cap nn Ao co ops _ _ _ x.f1 A c env n0 d0 b0 base _ HOK1.out HX.out.sw HX.out.env HC.out HKD.out).mono ?_;rintro e w2 ⟨rfl, hs0, hf0⟩;have HX2 := zf.mk (HX.out.call HOK1.out hs0 hf0);clear hs0 hf0 q1 HX HKD;have HX := HX2;clear HX2;have hk := HKR.out;clear HKR;replace hk := Option.bind_eq_some_iff.mp hk;obtain ⟨⟨n1, d1, b1⟩, hk1, hk⟩ := hk;rw [List.append_nil] at hk1;have HKD := zf.mk hk1;have HKR := zf.mk hk;clear hk hk1;have q2 := HX.out.X.cell 2 (v := .int .i64 x.f2) rfl;go_wp2_with fail
    refine (IH.out (okAt ok w) g gn cap nn Ao co ops _ _ _ x.f2 A c env n1 d1 b1 base _ HOK1.out HX.out.sw HX.out.env HC.out HKD.out).mono ?_;rintro e w3 ⟨rfl, hs1, hf1⟩;have HX2 := zf.mk (HX.out.call HOK1.out hs1 hf1);clear hs1 hf1 q2 HX HKD;have HX := HX2;clear HX2;have hk := HKR.out;clear HKR;replace hk := Option.bind_eq_some_iff.mp hk;obtain ⟨⟨n2, d2, b2⟩, hk2, hk⟩ := hk;rw [List.append_nil] at hk2;have HKD := zf.mk hk2;have HKR := zf.mk hk;clear hk hk2;have q3 := HX.out.X.cell 3 (v := .int .i64 x.f3) rfl;go_wp2_with fail
    refine (IH.out (okAt ok w) g gn cap nn Ao co ops _ _ _ x.f3 A c env n2 d2 b2 base _ HOK1.out HX.out.sw HX.out.env HC.out HKD.out).mono ?_;rintro e w4 ⟨rfl, hs2, hf2⟩;have HX2 := zf.mk (HX.out.call HOK1.out hs2 hf2);clear hs2 hf2 q3 HX HKD;have HX := HX2;clear HX2;have hk := HKR.out;clear HKR;have hk2 : some _ = some _ := hk;simp only [Option.some.injEq, Prod.mk.injEq] at hk2;obtain ⟨rfl, rfl, rfl⟩ := hk2;clear hk;go_wp2_with fail
    go_meet
    case rel => exact HX
   ·
    have q0 : (x.f0 == 0) = false := beq_eq_false_iff_ne.mpr hN0;have q3 : (x.f0 == 3) = false := beq_eq_false_iff_ne.mpr hN3;have q5 : (x.f0 == 5) = false := beq_eq_false_iff_ne.mpr hN5;have q6 : (x.f0 == 6) = false := beq_eq_false_iff_ne.mpr hN6;have q9 : (x.f0 == 9) = false := beq_eq_false_iff_ne.mpr hN9;have q10 : (x.f0 == 10) = false := beq_eq_false_iff_ne.mpr hN10;have q4 : (x.f0 == 4) = false := beq_eq_false_iff_ne.mpr hN4;have q8 : (x.f0 == 8) = false := beq_eq_false_iff_ne.mpr hN8;have q7 : (x.f0 == 7) = false := beq_eq_false_iff_ne.mpr hN7;have hke : kidsE x = [] := by simp [kidsE, hN3, hN5, hN6, hN9, hN10, hN4, hN8, hN7]
    have hk := HK.out;rw [hke] at hk;have hw := HOWN.out;have hw2 : swOwn ops x env code at_ = (x.f4, (code, at_)) := by simp [swOwn, hN0, hN9, hN10]
    rw [hw2] at hw;simp only [Prod.mk.injEq] at hw;obtain ⟨rfl, rfl, rfl⟩ := hw;clear hw2 hke HK HOWN hN0 hN3 hN5 hN6 hN9 hN10 hN4 hN8 hN7;have hk2 : some _ = some _ := hk;simp only [Option.some.injEq, Prod.mk.injEq] at hk2;obtain ⟨rfl, rfl, rfl⟩ := hk2;clear hk;go_wp2_with fail
    go_meet
    case rel => exact HX
 ·
  rw [if_neg h0] at h;cases h
theorem zsg : ∀ k, WalkOK k
 | 0 => fun _ _ _ _ _ _ _ _ _ _ _ _ _ _ _ _ _ _ _ _ _ _ _ _ h => by simp [swalk.f] at h
 | k + 1 => zul k (zsg k)
set_option linter.unusedVariables false
set_option linter.unusedSimpArgs false
set_option maxHeartbeats 1000000
open Go.RowKit Go.Proofs.YtfcjpkkglffnmaaGreatDoorW.PrintWords Go.Proofs.YtfcjpkkglffnmaaGreatDoorW.PrintLast Go.Proofs.YtfcjpkkglffnmaaGreatDoorW.PrintMore
theorem toList_eq {a b : ByteArray} : a.toList = b.toList ↔ a = b := by
 constructor
 ·
  intro h;rw [toList_data, toList_data] at h;have h2 : a.data = b.data := Array.toList_inj.1 h;cases a; cases b;simpa using h2
 ·
  rintro rfl; rfl
theorem zku (nm : ByteArray) (env : List ByteArray) (y : ByteArray) : ∀ i, i ≤ env.length → lastAt nm (env ++ [y]) i = lastAt nm env i
 | 0, _ => rfl
 | i + 1, h => by
  rw [lastAt, lastAt, zku nm env y i (by omega)];have e : rdOf ByteArray.empty (env ++ [y]) (i : Int) = rdOf ByteArray.empty env (i : Int) := by
   unfold rdOf;rw [Int.toNat_natCast, List.getD_eq_getElem?_getD, List.getD_eq_getElem?_getD, List.getElem?_append_left (by omega)]
  rw [e]
theorem zkv (s : ByteArray) : ∀ l i, posOf s l (i + 1) = if posOf s l i < 0 then -1 else posOf s l i + 1
 | [], i => rfl
 | x :: xs, i => by
  rw [posOf, posOf];by_cases h : s = x
  ·
   rw [if_pos h, if_pos h, if_neg (by omega)];omega
  ·
   rw [if_neg h, if_neg h];exact zkv s xs (i + 1)
theorem zjo (nm : ByteArray) (env : List ByteArray) : ∀ i, lastAt nm env i = -1 ∨ (0 ≤ lastAt nm env i ∧ lastAt nm env i < (i : Int))
 | 0 => .inl rfl
 | i + 1 => by
  rw [lastAt];split
  ·
   exact .inr ⟨by omega, by omega⟩
  ·
   rcases zjo nm env i with h | h
   ·
    exact .inl h
   ·
    exact .inr ⟨h.1, by omega⟩
theorem pos_last (nm : ByteArray) (env : List ByteArray) : posOf nm env.reverse 0 = if lastAt nm env env.length < 0 then -1 else (env.length : Int) - 1 - lastAt nm env env.length := by
 obtain ⟨n, hn⟩ : ∃ n, env.length = n := ⟨_, rfl⟩;induction n generalizing env with
 | zero =>
  obtain rfl := List.eq_nil_of_length_eq_zero hn;rfl
 | succ n ih =>
  obtain ⟨init, y, rfl⟩ : ∃ init y, env = init ++ [y] := ⟨env.dropLast, env.getLast (by intro h; rw [h] at hn; cases hn), (List.dropLast_concat_getLast _).symm⟩;have hl : init.length = n := by simpa using hn
  rw [List.reverse_append, List.reverse_singleton, List.singleton_append, posOf, List.length_append, List.length_singleton, lastAt, zku nm init y _ (Nat.le_refl _)];have e : rdOf ByteArray.empty (init ++ [y]) (init.length : Int) = y := by
   unfold rdOf;rw [Int.toNat_natCast, List.getD_eq_getElem?_getD, List.getElem?_append_right (Nat.le_refl _), Nat.sub_self];rfl
  rw [e];by_cases h : nm = y
  ·
   rw [if_pos h, if_pos (toList_eq.2 h.symm), if_neg (by omega)];omega
  ·
   rw [if_neg h, if_neg (fun c => h (toList_eq.1 c).symm), zkv, ih init hl];rcases zjo nm init init.length with h1 | h1
   ·
    rw [h1];rfl
   ·
    rw [if_neg (show ¬ lastAt nm init init.length < 0 by omega), if_neg (by omega), if_neg (by omega)];push_cast
    omega
def prs (x : S44) : List Int → Nat → List (Int × List ByteArray)
 | [], _ => []
 | c :: cs, i => (c, boundOf x i) :: prs x cs (i + 1)
theorem zqr (x : S44) (h0 : 0 ≤ x.f0) (h1 : x.f0 ≤ 10) : kidsE x = prs x (kidsOf x) 0 := by
 obtain ⟨f0, f1, f2, f3, f4, f5, f6, f7, f8, f9⟩ := x;have hf : f0 = 0 ∨ f0 = 1 ∨ f0 = 2 ∨ f0 = 3 ∨ f0 = 4 ∨ f0 = 5 ∨ f0 = 6 ∨ f0 = 7 ∨ f0 = 8 ∨ f0 = 9 ∨ f0 = 10 := by
  have h0 : 0 ≤ f0 := h0;have h1 : f0 ≤ 10 := h1;omega
 clear h0 h1;rcases hf with rfl | rfl | rfl | rfl | rfl | rfl | rfl | rfl | rfl | rfl | rfl <;> simp [kidsE, kidsOf, kidsN, boundOf, prs]
def Sim (L ns2 ns2' ns' : List S44) (b e : Nat) (code at_ code' at' : Int) (r : Option (Int × Int)) : Prop :=
 ns2'.length = L.length ∧ (∀ i, (i < b ∨ e ≤ i) → ns2'[i]? = ns2[i]?) ∧ (¬ code = 0 → code' = code ∧ at' = at_) ∧
 (code = 0 → match r with | none => code' = 0 ∧ at' = at_ ∧ (∀ i, b ≤ i → i < e → ns2'[i]? = ns'[i]?) | some (ea, ec) => code' = ec ∧ at' = ea)
theorem zum (l : List S44) (ops : List S42) (hall : ∀ x ∈ l, mayS x true = true) (hl : l.length ≤ 512) (hops : ops.length ≤ 4) : ∀ (n a k : Nat) (ns2 : List S44) (env : List ByteArray) (b : Nat) (code at_ : Int), a = n → a < l.length → beginS l (a : Int) = (b : Int) → ns2.length = l.length → (∀ i, b ≤ i → i ≤ a → ns2[i]? = l[i]?) → env.length + 2 * a ≤ 1900 → a < k → ¬ code = 0 →
  ∃ ns2', swalk.f k ops (ns2, code, at_) (a : Int) env = some (ns2', code, at_) ∧ ns2'.length = l.length ∧ ∀ i, (i < b ∨ a + 1 ≤ i) → ns2'[i]? = ns2[i]? := by
 intro n;induction n using Nat.strongRecOn with
 | _ n ih =>
  intro a k ns2 env b code at_ hn ha hb hns hf he hk hcode;subst hn;obtain ⟨k, rfl⟩ : ∃ m, k = m + 1 := ⟨k - 1, by omega⟩;have hr := zcl l (a : Int) (by omega) (by omega) (by omega);rw [hb] at hr;have hba : b ≤ a := by omega
  have hxl : l[a]? = some l[a] := List.getElem?_eq_getElem ha;have hx : ns2[a]? = some l[a] := (hf a hba (Nat.le_refl _)).trans hxl;have hmay := hall l[a] (List.getElem_mem ha);have hs := zgb l hl a b l[a] hxl hb;generalize l[a] = x at *;have hq : 0 ≤ x.f0 ∧ x.f0 ≤ 10 := by
   simp only [mayS, Bool.and_eq_true, decide_eq_true_eq] at hmay;exact ⟨hmay.1, hmay.2.1⟩
  have go : ∀ (cs : List Int) (i b2 : Nat) (m : List S44), i + cs.length ≤ 3 → b ≤ b2 → Segs l cs b2 a → m.length = l.length → (∀ j, b2 ≤ j → j < a → m[j]? = l[j]?) →
    ∃ m', swKids (swalk.f k ops) env (prs x cs i) (m, code, at_) = some (m', code, at_) ∧ m'.length = l.length ∧ ∀ j, (j < b2 ∨ a ≤ j) → m'[j]? = m[j]? := by
   intro cs;induction cs with
   | nil => intro i b2 m _ _ _ hm _; exact ⟨m, rfl, hm, fun _ _ => rfl⟩
   | cons c cs ihc =>
    rintro i b2 m hi hb2 ⟨cn, rfl, h1, h2, h3, h4⟩ hm hmf;simp only [List.length_cons] at hi;have hle := zdh x i;obtain ⟨m1, e1, d1, d2⟩ := ih cn h2 cn k m (env ++ boundOf x i) b2 code at_ rfl (by omega) h3 hm (fun j hj hj2 => hmf j hj (by omega)) (by rw [List.length_append]; omega) (by omega) hcode;obtain ⟨m2, e2, f1, f2⟩ := ihc (i + 1) (cn + 1) m1 (by omega) (by omega) h4 d1 (fun j hj hj2 => (d2 j (by omega)).trans (hmf j (by omega) hj2));refine ⟨m2, ?_, f1, fun j hj => (f2 j (by omega)).trans (d2 j (by omega))⟩;rw [prs, swKids, e1, Option.bind_some];exact e2
  have h3 : (kidsOf x).length ≤ 3 := by unfold kidsOf; rw [List.length_take]; simp; omega
  obtain ⟨m', e1, d1, d2⟩ := go (kidsOf x) 0 b ns2 (by omega) (Nat.le_refl _) hs hns (fun j hj hj2 => hf j hj (by omega));have hown : (swOwn ops x env code at_).2 = (code, at_) := by
   unfold swOwn
   (repeat' split) <;> (try rfl) <;> simp [failC, hcode]
  refine ⟨m'.set a (blankN x (swOwn ops x env code at_).1), ?_, by rw [List.length_set]; exact d1, fun i hi => by rw [List.getElem?_set_ne (by omega)]; exact d2 i (by omega)⟩;rw [swalk.f, if_pos ⟨by omega, by show (a : Int) < (ns2.length : Int); omega, by omega, hops⟩, rd_some ns2 a x hx, Int.toNat_natCast, zqr x hq.1 hq.2];dsimp only;rw [hown, e1, Option.bind_some]
theorem zqs (l : List S44) (ops : List S42) (hall : ∀ x ∈ l, mayS x true = true) (hl : l.length ≤ 512) (hops : ops.length ≤ 4) (x : S44) (k : Nat) (env : List ByteArray) (code at_ : Int) (hcode : ¬ code = 0) (a : Nat) (ha : a < l.length) (hk : a ≤ k) (he : env.length + 2 * a ≤ 1900) : ∀ (cs : List Int) (i b2 : Nat) (m : List S44), Segs l cs b2 a → m.length = l.length → (∀ j, b2 ≤ j → j < a → m[j]? = l[j]?) →
  ∃ m', swKids (swalk.f k ops) env (prs x cs i) (m, code, at_) = some (m', code, at_) ∧ m'.length = l.length ∧ ∀ j, (j < b2 ∨ a ≤ j) → m'[j]? = m[j]? := by
 intro cs;induction cs with
 | nil => intro i b2 m _ hm _; exact ⟨m, rfl, hm, fun _ _ => rfl⟩
 | cons c cs ihc =>
  rintro i b2 m ⟨cn, rfl, h1, h2, h3, h4⟩ hm hmf;have hle := zdh x i;obtain ⟨m1, e1, d1, d2⟩ := zum l ops hall hl hops cn cn k m (env ++ boundOf x i) b2 code at_ rfl (by omega) h3 hm (fun j hj hj2 => hmf j hj (by omega)) (by rw [List.length_append]; omega) (by omega) hcode;obtain ⟨m2, e2, f1, f2⟩ := ihc (i + 1) (cn + 1) m1 h4 d1 (fun j hj hj2 => (d2 j (by omega)).trans (hmf j (by omega) hj2));refine ⟨m2, ?_, f1, fun j hj => (f2 j (by omega)).trans (d2 j (by omega))⟩;rw [prs, swKids, e1, Option.bind_some];exact e2
theorem znj (l : List S44) (ops : List S42) (hall : ∀ x ∈ l, mayS x true = true) (hl : l.length ≤ 512) (hops : ops.length ≤ 4) (x : S44) (k : Nat) (env : List ByteArray) (a : Nat) (ha : a < l.length) (hk : a + 1600 ≤ k) (he : env.length + 2 * (a + 1) ≤ 1500) : ∀ (cs : List Int) (i b2 : Nat) (m : List S44) (r : Option (Int × Int)) (m' : List S44), Segs l cs b2 a → m.length = l.length → (∀ j, b2 ≤ j → j < a → m[j]? = l[j]?) → goKids (rnode.f k ops) x env cs i m = some (r, m') → ∀ q, (q < b2 ∨ a ≤ q) → m'[q]? = m[q]? := by
 intro cs;induction cs with
 | nil =>
  intro i b2 m r m' _ _ _ hg q _;rw [goKids] at hg;obtain ⟨_, rfl⟩ := Prod.mk.inj (Option.some.inj hg);rfl
 | cons c cs ihc =>
  rintro i b2 m r m' ⟨cn, rfl, h1, h2, h3, h4⟩ hm hmf hg q hq;have hle := zdh x i;obtain ⟨r1, m1, e1, ⟨d1, d2, _, _⟩, _⟩ := zjn l ops hall hl hops cn cn k m (env ++ boundOf x i) b2 rfl (by omega) h3 hm (fun j hj hj2 => hmf j hj (by omega)) (by rw [List.length_append]; omega) (by omega);rw [goKids, e1, Option.bind_some] at hg;cases r1 with
  | some e =>
   have hg : (some (some e, m1) : Option (Option (Int × Int) × List S44)) = some (r, m') := hg;obtain ⟨_, rfl⟩ := Prod.mk.inj (Option.some.inj hg);exact d2 q (by omega)
  | none =>
   have hg : goKids (rnode.f k ops) x env cs (i + 1) m1 = some (r, m') := hg;rw [ihc (i + 1) (cn + 1) m1 r m' h4 d1 (fun j hj hj2 => (d2 j (by omega)).trans (hmf j (by omega) hj2)) hg q (by omega)];exact d2 q (by omega)
theorem walk_sim (l : List S44) (ops : List S42) (hall : ∀ x ∈ l, mayS x true = true) (hl : l.length ≤ 512) (hops : ops.length ≤ 4) : ∀ (n a k : Nat) (ns ns2 : List S44) (env : List ByteArray) (b : Nat) (at_ : Int), a = n → a < l.length → beginS l (a : Int) = (b : Int) → ns.length = l.length → (∀ i, b ≤ i → i ≤ a → ns[i]? = l[i]?) → ns2.length = l.length → (∀ i, b ≤ i → i ≤ a → ns2[i]? = l[i]?) → env.length + 2 * (a + 1) ≤ 1500 → a + 1700 ≤ k →
  ∃ r ns' ns2' code' at', rnode.f k ops ns (a : Int) env = some (r, ns') ∧ swalk.f k ops (ns2, 0, at_) (a : Int) env = some (ns2', code', at') ∧ Did l ns ns' b (a + 1) r ∧ Sim l ns2 ns2' ns' b (a + 1) 0 at_ code' at' r := by
 intro n;induction n using Nat.strongRecOn with
 | _ n ih =>
  intro a k ns ns2 env b at_ hn ha hb hns hf hns2 hf2 he hk;obtain ⟨r, ns', hr1, hd, _⟩ := zjn l ops hall hl hops a a k ns env b rfl ha hb hns hf (by omega) (by omega);subst hn;have hr1' := hr1;obtain ⟨k, rfl⟩ : ∃ m, k = m + 1 := ⟨k - 1, by omega⟩;have hrg := zcl l (a : Int) (by omega) (by omega) (by omega);rw [hb] at hrg;have hba : b ≤ a := by omega
  have hxl : l[a]? = some l[a] := List.getElem?_eq_getElem ha;have hx : ns[a]? = some l[a] := (hf a hba (Nat.le_refl _)).trans hxl;have hx2 : ns2[a]? = some l[a] := (hf2 a hba (Nat.le_refl _)).trans hxl;have hmay := hall l[a] (List.getElem_mem ha);have hs := zgb l hl a b l[a] hxl hb;generalize l[a] = x at *;have hq : 0 ≤ x.f0 ∧ x.f0 ≤ 10 := by
   simp only [mayS, Bool.and_eq_true, decide_eq_true_eq] at hmay;exact ⟨hmay.1, hmay.2.1⟩
  have h3 : (kidsOf x).length ≤ 3 := by unfold kidsOf; rw [List.length_take]; simp; omega
  have go : ∀ (cs : List Int) (i b2 : Nat) (m m2 : List S44) (r : Option (Int × Int)) (m' : List S44), i + cs.length ≤ 3 → b ≤ b2 → Segs l cs b2 a → m.length = l.length → (∀ j, b2 ≤ j → j < a → m[j]? = l[j]?) → m2.length = l.length → (∀ j, b2 ≤ j → j < a → m2[j]? = l[j]?) → goKids (rnode.f k ops) x env cs i m = some (r, m') →
    ∃ m2' code' at', swKids (swalk.f k ops) env (prs x cs i) (m2, 0, at_) = some (m2', code', at') ∧ Sim l m2 m2' m' b2 a 0 at_ code' at' r := by
   intro cs;induction cs with
   | nil =>
    intro i b2 m m2 r m' _ _ hsg hm hmf hm2 hmf2 hg;obtain rfl : b2 = a := hsg;rw [goKids] at hg;obtain ⟨rfl, rfl⟩ := Prod.mk.inj (Option.some.inj hg);exact ⟨m2, 0, at_, rfl, hm2, fun _ _ => rfl, fun h => absurd rfl h, fun _ => ⟨rfl, rfl, fun j h1 h2 => absurd h1 (by omega)⟩⟩
   | cons c cs ihc =>
    rintro i b2 m m2 r m' hi hb2 ⟨cn, rfl, h1, h2, h3, h4⟩ hm hmf hm2 hmf2 hg;simp only [List.length_cons] at hi;have hle := zdh x i;have hsl := zse l cs (cn + 1) a h4;obtain ⟨r1, m1, m21, c1, a1, e1, e2, ⟨d1, d2, d3, d4⟩, s1, s2, _, s4⟩ := ih cn h2 cn k m m2 (env ++ boundOf x i) b2 at_ rfl (by omega) h3 hm (fun j hj hj2 => hmf j hj (by omega)) hm2 (fun j hj hj2 => hmf2 j hj (by omega)) (by rw [List.length_append]; omega) (by omega);rw [goKids, e1, Option.bind_some] at hg;rw [prs, swKids, e2, Option.bind_some];have s4 := s4 rfl;cases r1 with
    | some e =>
     obtain ⟨ea, ec⟩ := e;obtain ⟨rfl, rfl⟩ := s4;have hec := (d4 _ _ rfl).2;have hg : (some (some (a1, c1), m1) : Option (Option (Int × Int) × List S44)) = some (r, m') := hg;obtain ⟨rfl, rfl⟩ := Prod.mk.inj (Option.some.inj hg);obtain ⟨m22, e3, f1, f2⟩ := zqs l ops hall hl hops x k env c1 a1 (by omega) a ha (by omega) (by omega) cs (i + 1) (cn + 1) m21 h4 s1 (fun j hj hj2 => (s2 j (by omega)).trans (hmf2 j (by omega) hj2));exact ⟨m22, c1, a1, e3, f1, fun j hj => (f2 j (by omega)).trans (s2 j (by omega)), fun h => absurd rfl h, fun _ => ⟨rfl, rfl⟩⟩
    | none =>
     obtain ⟨rfl, rfl, s5⟩ := s4;have hg : goKids (rnode.f k ops) x env cs (i + 1) m1 = some (r, m') := hg;obtain ⟨m22, c2, a2, e3, f1, f2, f3, f4⟩ := ihc (i + 1) (cn + 1) m1 m21 r m' (by omega) (by omega) h4 d1 (fun j hj hj2 => (d2 j (by omega)).trans (hmf j (by omega) hj2)) s1 (fun j hj hj2 => (s2 j (by omega)).trans (hmf2 j (by omega) hj2)) hg;refine ⟨m22, c2, a2, e3, f1, fun j hj => (f2 j (by omega)).trans (s2 j (by omega)), fun h => absurd rfl h, fun _ => ?_⟩;have f4 := f4 rfl;cases r with
     | some e => exact f4
     | none =>
      obtain ⟨g1, g2, g3⟩ := f4;refine ⟨g1, g2, fun j hj hj2 => ?_⟩;by_cases hjc : j < cn + 1
      ·
       have hsame : m'[j]? = m1[j]? := by
        obtain ⟨rr, mm, eg, dd⟩ : ∃ rr mm, goKids (rnode.f k ops) x env cs (i + 1) m1 = some (rr, mm) ∧ ∀ q, (q < cn + 1 ∨ a ≤ q) → mm[q]? = m1[q]? := ⟨_, _, hg, znj l ops hall hl hops x k env a ha (by omega) (by omega) cs (i + 1) (cn + 1) m1 _ _ h4 d1 (fun q hq hq2 => (d2 q (by omega)).trans (hmf q (by omega) hq2)) hg⟩;rw [hg] at eg;obtain ⟨_, rfl⟩ := Prod.mk.inj (Option.some.inj eg);exact dd j (.inl hjc)
       rw [f2 j (by omega), hsame];exact s5 j hj (by omega)
      ·
       exact g3 j (by omega) hj2
  have fin : ∀ (v : Int) (r : Option (Int × Int)) (m' : List S44), goKids (rnode.f k ops) x env (kidsOf x) 0 (ns.set a (blankN x v)) = some (r, m') → ∃ ns2' code' at', ((swKids (swalk.f k ops) env (prs x (kidsOf x) 0) (ns2, 0, at_)).bind fun s' => some (s'.1.set a (blankN x v), s'.2)) = some (ns2', code', at') ∧ Sim l ns2 ns2' m' b (a + 1) 0 at_ code' at' r := by
   intro v r m' hg;obtain ⟨m2', code', at', e1, s1, s2, s3, s4⟩ := go (kidsOf x) 0 b (ns.set a (blankN x v)) ns2 r m' (by omega) (Nat.le_refl _) hs (by simp [hns]) (fun j hj hj2 => by rw [List.getElem?_set_ne (by omega)]; exact hf j hj (by omega)) hns2 (fun j hj hj2 => hf2 j hj (by omega)) hg;refine ⟨m2'.set a (blankN x v), code', at', by rw [e1]; rfl, by rw [List.length_set]; exact s1, fun j hj => by rw [List.getElem?_set_ne (by omega)]; exact s2 j (by omega), fun h => absurd rfl h, fun _ => ?_⟩;have s4 := s4 rfl;cases r with
   | some e => exact s4
   | none =>
    obtain ⟨t1, t2, t3⟩ := s4;refine ⟨t1, t2, fun j hj hj2 => ?_⟩;by_cases hja : j = a
    ·
     subst hja;have h1 := znj l ops hall hl hops x k env j ha (by omega) (by omega) (kidsOf x) 0 b (ns.set j (blankN x v)) none m' hs (by simp [hns]) (fun q hq hq2 => by rw [List.getElem?_set_ne (by omega)]; exact hf q hq (by omega)) hg j (.inr (Nat.le_refl _));rw [h1, List.getElem?_set_self (by omega), List.getElem?_set_self (by omega)]
    ·
     rw [List.getElem?_set_ne (by omega)];exact t3 j hj (by omega)
  have err : ∀ (v : Int) (c : Int) (m' : List S44), ¬ c = 0 → ∃ ns2' code' at', ((swKids (swalk.f k ops) env (prs x (kidsOf x) 0) (ns2, c, x.f9)).bind fun s' => some (s'.1.set a (blankN x v), s'.2)) = some (ns2', code', at') ∧ Sim l ns2 ns2' m' b (a + 1) 0 at_ code' at' (some (x.f9, c)) := by
   intro v c m' hc;obtain ⟨m2', e1, s1, s2⟩ := zqs l ops hall hl hops x k env c x.f9 hc a ha (by omega) (by omega) (kidsOf x) 0 b ns2 hs hns2 (fun j hj hj2 => hf2 j hj (by omega));exact ⟨m2'.set a (blankN x v), c, x.f9, by rw [e1]; rfl, by rw [List.length_set]; exact s1, fun j hj => by rw [List.getElem?_set_ne (by omega)]; exact s2 j (by omega), fun h => absurd rfl h, fun _ => ⟨rfl, rfl⟩⟩
  have key : ∃ ns2' code' at', swalk.f (k + 1) ops (ns2, 0, at_) (a : Int) env = some (ns2', code', at') ∧ Sim l ns2 ns2' ns' b (a + 1) 0 at_ code' at' r := by
   rw [swalk.f, if_pos ⟨by omega, by show (a : Int) < (ns2.length : Int); omega, by omega, hops⟩, rd_some ns2 a x hx2, Int.toNat_natCast, zqr x hq.1 hq.2];dsimp only;rw [rnode.f, if_pos ⟨by omega, by omega, by omega, hops⟩, rd_some ns a x hx, Int.toNat_natCast] at hr1;have hf0 : ∀ c e, failC 0 at_ c e = (c, e) := fun c e => by unfold failC; rw [if_pos rfl]
   by_cases c0 : x.f0 = 0
   ·
    have hkk : kidsOf x = [] := by unfold kidsOf kidsN; simp [c0]
    simp only [if_pos c0] at hr1;rw [rev_is env k (by omega) (by omega), Option.bind_some, zql _ _ k (by simp; omega) (by simp; omega), Option.bind_some, pos_last] at hr1;have ho : swOwn ops x env 0 at_ = ((env.length : Int) - 1 - lastAt x.f5 env env.length, if lastAt x.f5 env env.length < 0 then failC 0 at_ 601 x.f9 else (0, at_)) := by
     unfold swOwn;rw [if_pos c0]
    rw [ho];by_cases hi : lastAt x.f5 env env.length < 0
    ·
     rw [if_pos hi, if_pos (by decide)] at hr1;obtain ⟨rfl, rfl⟩ := Prod.mk.inj (Option.some.inj hr1);rw [if_pos hi, hf0];exact err _ 601 _ (by decide)
    ·
     have hp := zjo x.f5 env env.length;rw [if_neg hi, if_neg (by omega)] at hr1;obtain ⟨rfl, rfl⟩ := Prod.mk.inj (Option.some.inj hr1);rw [if_neg hi];exact fin _ none _ (by rw [hkk]; rfl)
   ·
    simp only [if_neg c0] at hr1;by_cases c9 : x.f0 = 9 ∨ x.f0 = 10
    ·
     simp only [if_pos c9] at hr1;have ho : swOwn ops x env 0 at_ = (if opIdx x.f5 ops 0 < 0 then (0, failC 0 at_ 602 x.f9) else (opIdx x.f5 ops 0, (0, at_))) := by
      unfold swOwn;rw [if_neg c0, if_pos c9]
     rw [ho];by_cases hi : opIdx x.f5 ops 0 < 0
     ·
      rw [if_pos hi] at hr1;obtain ⟨rfl, rfl⟩ := Prod.mk.inj (Option.some.inj hr1);rw [if_pos hi, hf0];exact err _ 602 _ (by decide)
     ·
      rw [if_neg hi] at hr1;rw [if_neg hi];exact fin _ r _ hr1
    ·
     simp only [if_neg c9] at hr1;have ho : swOwn ops x env 0 at_ = (x.f4, (0, at_)) := by
      unfold swOwn;rw [if_neg c0, if_neg c9]
     rw [ho];exact fin _ r _ hr1
  obtain ⟨ns2', code', at', e2, hsim⟩ := key;exact ⟨r, ns', ns2', code', at', hr1', e2, hd, hsim⟩
attribute [local go_sem] Vz V3 za0 za1 Vd Ve V4 V5
def Xp.f (a0 : Int) : Option (Bool) := if a0 ≥ 97 then (some (decide (a0 ≤ 122))) else (some false)
set_option maxHeartbeats 8000000 in
set_option maxRecDepth 100000 in
theorem Xp.calls (a0 : Int) (r : Bool) (w : World) (h : Xp.f a0 = some r) :
  Calls Tryz.prog 85 #[.int .u8 a0] w fun e w' => e = .returned (.bool r) ∧ xm w w' := by
 have H : (if a0 ≥ 97 then (some (decide (a0 ≤ 122))) else (some false)) = some r := h;clear h;by_cases c2 : a0 ≥ 97
 ·
  rw [if_pos c2] at H;have ze7 : decide (97 ≤ a0) = true := decide_eq_true c2;clear c2;obtain rfl := Option.some.inj H;go_enter Tryz.func85, Tryz.ntmps85;go_wp2
  go_ret;exact ⟨by first | rfl | (simp; done) | (simp [*]; done), by repeat (first | exact xm.refl _ | apply xm.step)⟩
 ·
  rw [if_neg c2] at H;have ze7 : decide (97 ≤ a0) = false := decide_eq_false c2;clear c2;obtain rfl := Option.some.inj H;go_enter Tryz.func85, Tryz.ntmps85;go_wp2
  go_ret;exact ⟨by first | rfl | (simp; done) | (simp [*]; done), by repeat (first | exact xm.refl _ | apply xm.step)⟩
def X8.f (a0 : Int) : Option (Bool) := if a0 ≥ 48 then (some (decide (a0 ≤ 57))) else (some false)
set_option maxHeartbeats 8000000 in
set_option maxRecDepth 100000 in
theorem X8.calls (a0 : Int) (r : Bool) (w : World) (h : X8.f a0 = some r) :
  Calls Tryz.prog 89 #[.int .u8 a0] w fun e w' => e = .returned (.bool r) ∧ xm w w' := by
 have H : (if a0 ≥ 48 then (some (decide (a0 ≤ 57))) else (some false)) = some r := h;clear h;by_cases c2 : a0 ≥ 48
 ·
  rw [if_pos c2] at H;have ze7 : decide (48 ≤ a0) = true := decide_eq_true c2;clear c2;obtain rfl := Option.some.inj H;go_enter Tryz.func89, Tryz.ntmps89;go_wp2
  go_ret;exact ⟨by first | rfl | (simp; done) | (simp [*]; done), by repeat (first | exact xm.refl _ | apply xm.step)⟩
 ·
  rw [if_neg c2] at H;have ze7 : decide (48 ≤ a0) = false := decide_eq_false c2;clear c2;obtain rfl := Option.some.inj H;go_enter Tryz.func89, Tryz.ntmps89;go_wp2
  go_ret;exact ⟨by first | rfl | (simp; done) | (simp [*]; done), by repeat (first | exact xm.refl _ | apply xm.step)⟩
def zar.f (a0 : Int) : Option (Bool) := (Xp.f a0).bind fun t194 => (if t194 = true then (some true) else ((X8.f a0).bind fun t195 => (if t195 = true then (some true) else (some (a0 == 95)))))
set_option maxHeartbeats 8000000 in
set_option maxRecDepth 100000 in
theorem zar.calls (a0 : Int) (r : Bool) (w : World) (h : zar.f a0 = some r) :
  Calls Tryz.prog 86 #[.int .u8 a0] w fun e w' => e = .returned (.bool r) ∧ xm w w' := by
 have H : ((Xp.f a0).bind fun t194 => (if t194 = true then (some true) else ((X8.f a0).bind fun t195 => (if t195 = true then (some true) else (some (a0 == 95)))))) = some r := h;clear h;replace H := Option.bind_eq_some_iff.mp H;obtain ⟨t194, A20, H⟩ := H;replace H : (if t194 = true then (some true) else ((X8.f a0).bind fun t195 => (if t195 = true then (some true) else (some (a0 == 95))))) = some r := H;have A2 := zf.mk A20;clear A20;by_cases c3 : t194 = true
 ·
  subst c3;have H1 : (some true) = some r := by rw [if_pos rfl] at H; exact H
  clear H;have H := H1;clear H1;obtain rfl := Option.some.inj H;go_enter Tryz.func86, Tryz.ntmps86;go_wp2_with (first | ((with_reducible refine Zw (f := 85) rfl ?_); refine Xc (some 4) rfl rfl Tryz.func85 (by kernel_rfl) rfl #[.int .u8 a0] rfl (by (try simp only [List.map_toArray, List.map_cons, List.map_nil]); first | done | rfl | (simp only [List.length_drop, List.length_take]; rfl)) ?_; (with_reducible refine (Xp.calls a0 true _ A2.out).mono ?_); rintro e w' ⟨rfl, ⟨nd, rfl⟩⟩; refine ⟨_, rfl, ?_⟩))
  go_ret;exact ⟨by first | rfl | (simp; done) | (simp [*]; done), by repeat (first | exact xm.refl _ | apply xm.step)⟩
 ·
  replace c3 := Bool.eq_false_iff.mpr c3;subst c3;have H1 : ((X8.f a0).bind fun t195 => (if t195 = true then (some true) else (some (a0 == 95)))) = some r := by rw [if_neg (show ¬ (false = true) by decide)] at H; exact H
  clear H;have H := H1;clear H1;replace H := Option.bind_eq_some_iff.mp H;obtain ⟨t195, A40, H⟩ := H;replace H : (if t195 = true then (some true) else (some (a0 == 95))) = some r := H;have A4 := zf.mk A40;clear A40;by_cases c5 : t195 = true
  ·
   subst c5;have H1 : (some true) = some r := by rw [if_pos rfl] at H; exact H
   clear H;have H := H1;clear H1;obtain rfl := Option.some.inj H;go_enter Tryz.func86, Tryz.ntmps86;go_wp2_with (first | ((with_reducible refine Zw (f := 85) rfl ?_); refine Xc (some 4) rfl rfl Tryz.func85 (by kernel_rfl) rfl #[.int .u8 a0] rfl (by (try simp only [List.map_toArray, List.map_cons, List.map_nil]); first | done | rfl | (simp only [List.length_drop, List.length_take]; rfl)) ?_; (with_reducible refine (Xp.calls a0 false _ A2.out).mono ?_); rintro e w' ⟨rfl, ⟨nd, rfl⟩⟩; refine ⟨_, rfl, ?_⟩) | (go_at_call 89; (with_reducible refine (X8.calls a0 true _ A4.out).mono ?_); rintro e w' ⟨rfl, ⟨nd, rfl⟩⟩))
   go_ret;exact ⟨by first | rfl | (simp; done) | (simp [*]; done), by repeat (first | exact xm.refl _ | apply xm.step)⟩
  ·
   replace c5 := Bool.eq_false_iff.mpr c5;subst c5;have H1 : (some (a0 == 95)) = some r := by rw [if_neg (show ¬ (false = true) by decide)] at H; exact H
   clear H;have H := H1;clear H1;obtain rfl := Option.some.inj H;go_enter Tryz.func86, Tryz.ntmps86;go_wp2_with (first | ((with_reducible refine Zw (f := 85) rfl ?_); refine Xc (some 4) rfl rfl Tryz.func85 (by kernel_rfl) rfl #[.int .u8 a0] rfl (by (try simp only [List.map_toArray, List.map_cons, List.map_nil]); first | done | rfl | (simp only [List.length_drop, List.length_take]; rfl)) ?_; (with_reducible refine (Xp.calls a0 false _ A2.out).mono ?_); rintro e w' ⟨rfl, ⟨nd, rfl⟩⟩; refine ⟨_, rfl, ?_⟩) | (go_at_call 89; (with_reducible refine (X8.calls a0 false _ A4.out).mono ?_); rintro e w' ⟨rfl, ⟨nd, rfl⟩⟩))
   go_ret;exact ⟨by first | rfl | (simp; done) | (simp [*]; done), by repeat (first | exact xm.refl _ | apply xm.step)⟩
end Go.Proofs.YtfcjpkkglffnmaaGreatDoor.H
