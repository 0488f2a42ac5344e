/- Several texts in one: contracts of functions of the program, and what they lean on. In part written by a program of this session over the kit's print, in part by hand. -/
import Derived.Test.YtfcjpkkglffnmaaGreatDoorYScopes9
import Derived.Test.YtfcjpkkglffnmaaGreatDoorYScopes2
import Derived.Test.YtfcjpkkglffnmaaGreatDoorYScopes3
import Derived.Test.YtfcjpkkglffnmaaGreatDoorYScopes7
import Derived.Test.YtfcjpkkglffnmaaGreatDoorYScopes8
namespace Go.Proofs.YtfcjpkkglffnmaaGreatDoor.H
open Go.RowKit Go.Proofs.YtfcjpkkglffnmaaGreatDoorW.PrintWords Go.Proofs.YtfcjpkkglffnmaaGreatDoorW.PrintLast Go.Proofs.YtfcjpkkglffnmaaGreatDoorW.PrintMore
attribute [local go_sem] Vz V3 za0 za1 Vd Ve V4 V5
set_option linter.unusedVariables false
set_option linter.unusedSimpArgs false
attribute [local go_sem high] zlm
set_option maxRecDepth 100000 in
set_option maxHeartbeats 8000000 in
theorem zm2 (k : Nat) (Zb xy vz Zl Za : Int) (Zh Zf Zi Zk : ByteArray) (yx : Int) (r : Bool) (w : World) (hk : Zb = 9) (h : xu.f k Zb xy vz Zl Za Zh Zf Zi Zk yx true = some r) :
  Calls Tryz.prog 59 #[.agg #[.int .i64 Zb, .int .i64 xy, .int .i64 vz, .int .i64 Zl, .int .i64 Za, .string Zh, .string Zf, .string Zi, .string Zk, .int .i64 yx], .bool true] w fun e w' => e = .returned (.bool r) ∧ Below w.heap.size w w' := by
 have hu45 := Tryz.underlying44;subst hk;have hy : refY ⟨9, xy, vz, Zl, Za, Zh, Zf, Zi, Zk, yx⟩ true = (⟨9, xy, 0, 0, 0, Zh, (⟨#[]⟩ : ByteArray), (⟨#[]⟩ : ByteArray), (⟨#[]⟩ : ByteArray), yx⟩ : S44) := by rfl
 unfold xu.f at h;dsimp only at h;rw [hy] at h;replace h := Option.bind_eq_some_iff.mp h;obtain ⟨c, hc, h⟩ := h;have hc3 := Xm hc;replace hc3 : c = 1 := hc3.trans (by decide);subst hc3;have HK := zf.mk hc;clear hc hy;replace h := Option.bind_eq_some_iff.mp h;obtain ⟨⟨ok, z0, z1, z2, z3, z4, z5, z6, z7, z8, z9⟩, hz, h⟩ := h;rw [if_pos rfl] at hz;have HZ := zf.mk (show xx.f k 9 xy vz Zl Za Zh Zf Zi Zk yx 9 xy 0 0 0 Zh (⟨#[]⟩ : ByteArray) (⟨#[]⟩ : ByteArray) (⟨#[]⟩ : ByteArray) yx = some (ok, z0, z1, z2, z3, z4, z5, z6, z7, z8, z9) from hz);clear hz;dsimp only at h;cases ok;case false =>
  rw [if_neg (by decide)] at h;obtain rfl := Option.some.inj h;clear h;go_enter Tryz.func59, Tryz.ntmps59;go_wp2_with (first | (go_at_call 77; (with_reducible refine (zt.calls k _ _ _ HK.out).mono ?_); rintro e w' ⟨rfl, ⟨nd, rfl⟩⟩) | (go_at_call 78; refine (xx.calls k 9 xy vz Zl Za Zh Zf Zi Zk yx (w.heap.size + 1) 9 xy 0 0 0 Zh (⟨#[]⟩ : ByteArray) (⟨#[]⟩ : ByteArray) (⟨#[]⟩ : ByteArray) yx false z0 z1 z2 z3 z4 z5 z6 z7 z8 z9 w _ ⟨(Yc (cs' := #[.int .i64 9, .int .i64 xy, .int .i64 0, .int .i64 0, .int .i64 0, .string Zh, .string (⟨#[]⟩ : ByteArray), .string (⟨#[]⟩ : ByteArray), .string (⟨#[]⟩ : ByteArray), .int .i64 yx]) (Yc (cs' := #[.int .i64 9, .int .i64 xy, .int .i64 0, .int .i64 0, .int .i64 0, .string (⟨#[]⟩ : ByteArray), .string (⟨#[]⟩ : ByteArray), .string (⟨#[]⟩ : ByteArray), .string (⟨#[]⟩ : ByteArray), .int .i64 yx]) (show (((w.alloc (.cells #[.int .i64 9, .int .i64 xy, .int .i64 vz, .int .i64 Zl, .int .i64 Za, .string Zh, .string Zf, .string Zi, .string Zk, .int .i64 yx] 44)).alloc (.cells #[.int .i64 9, .int .i64 0, .int .i64 0, .int .i64 0, .int .i64 0, .string (⟨#[]⟩ : ByteArray), .string (⟨#[]⟩ : ByteArray), .string (⟨#[]⟩ : ByteArray), .string (⟨#[]⟩ : ByteArray), .int .i64 yx] 44)).drewN nd).heap[w.heap.size + 1]? = some (.cells #[.int .i64 9, .int .i64 0, .int .i64 0, .int .i64 0, .int .i64 0, .string (⟨#[]⟩ : ByteArray), .string (⟨#[]⟩ : ByteArray), .string (⟨#[]⟩ : ByteArray), .string (⟨#[]⟩ : ByteArray), .int .i64 yx] 44 (0, 0)) from zn (by have h_ := Y8 (w.alloc (.cells #[.int .i64 9, .int .i64 xy, .int .i64 vz, .int .i64 Zl, .int .i64 Za, .string Zh, .string Zf, .string Zi, .string Zk, .int .i64 yx] 44)) (.cells #[.int .i64 9, .int .i64 0, .int .i64 0, .int .i64 0, .int .i64 0, .string (⟨#[]⟩ : ByteArray), .string (⟨#[]⟩ : ByteArray), .string (⟨#[]⟩ : ByteArray), .string (⟨#[]⟩ : ByteArray), .int .i64 yx] 44); rwa [show (w.alloc (.cells #[.int .i64 9, .int .i64 xy, .int .i64 vz, .int .i64 Zl, .int .i64 Za, .string Zh, .string Zf, .string Zi, .string Zk, .int .i64 yx] 44)).heap.size = w.heap.size + 1 from by simp] at h_) nd) 1 (.int .i64 xy) rfl) 5 (.string Zh) rfl), Nat.le_succ _⟩ (by repeat (first | exact Below.refl _ _ | apply zg | refine zi ?_ (Nat.le_succ _) | refine Below.alloc ?_ (by first | exact Nat.le_refl _ | simp) _)) HZ.out).mono ?_; rintro e w2 ⟨rfl, hI2, hB2, hK2⟩; have hx2 := Vp hK2 (Zx (p := ⟨w.heap.size + 1, 5, none⟩) (Zx (p := ⟨w.heap.size + 1, 1, none⟩) (show (((w.alloc (.cells #[.int .i64 9, .int .i64 xy, .int .i64 vz, .int .i64 Zl, .int .i64 Za, .string Zh, .string Zf, .string Zi, .string Zk, .int .i64 yx] 44)).alloc (.cells #[.int .i64 9, .int .i64 0, .int .i64 0, .int .i64 0, .int .i64 0, .string (⟨#[]⟩ : ByteArray), .string (⟨#[]⟩ : ByteArray), .string (⟨#[]⟩ : ByteArray), .string (⟨#[]⟩ : ByteArray), .int .i64 yx] 44)).drewN nd).heap[w.heap.size]? = some (.cells #[.int .i64 9, .int .i64 xy, .int .i64 vz, .int .i64 Zl, .int .i64 Za, .string Zh, .string Zf, .string Zi, .string Zk, .int .i64 yx] 44 (0, 0)) from zn (zo (Y8 w _) _) nd) (Nat.ne_of_lt (Nat.lt_succ_self _)) (.int .i64 xy)) (Nat.ne_of_lt (Nat.lt_succ_self _)) (.string Zh)) (Nat.ne_of_lt (Nat.lt_succ_self _)); have hy2 := hI2.1; obtain ⟨zcm, zcn, zco, zcp, zcr, zcs, zct, zcu, zcv, zcw⟩ := Yi hx2; obtain ⟨hy2_0, hy2_1, hy2_2, hy2_3, hy2_4, hy2_5, hy2_6, hy2_7, hy2_8, hy2_9⟩ := Yi hy2; have HB2 := zf.mk hB2; clear hx2 hy2 hI2 hB2 hK2))
  all_goals
   go_ret;clear HK hu45;refine ⟨?_, by repeat (first | exact HB2.out | exact Below.refl _ _ | apply zg | refine zi ?_ (Nat.le_succ _) | refine Below.alloc ?_ (by first | exact Nat.le_refl _ | simp) _)⟩;first
    | rfl
    | (simp [refEq, *]; done)
    | (simp [refEq, *]; omega)
    | (simp [refEq, *]; intros; omega)
    | (simp_all [refEq]; done)
 case true =>
  rw [if_pos rfl] at h;obtain rfl := Option.some.inj h;clear h;go_enter Tryz.func59, Tryz.ntmps59;go_wp2_with (first | (go_at_call 77; (with_reducible refine (zt.calls k _ _ _ HK.out).mono ?_); rintro e w' ⟨rfl, ⟨nd, rfl⟩⟩) | (go_at_call 78; refine (xx.calls k 9 xy vz Zl Za Zh Zf Zi Zk yx (w.heap.size + 1) 9 xy 0 0 0 Zh (⟨#[]⟩ : ByteArray) (⟨#[]⟩ : ByteArray) (⟨#[]⟩ : ByteArray) yx true z0 z1 z2 z3 z4 z5 z6 z7 z8 z9 w _ ⟨(Yc (cs' := #[.int .i64 9, .int .i64 xy, .int .i64 0, .int .i64 0, .int .i64 0, .string Zh, .string (⟨#[]⟩ : ByteArray), .string (⟨#[]⟩ : ByteArray), .string (⟨#[]⟩ : ByteArray), .int .i64 yx]) (Yc (cs' := #[.int .i64 9, .int .i64 xy, .int .i64 0, .int .i64 0, .int .i64 0, .string (⟨#[]⟩ : ByteArray), .string (⟨#[]⟩ : ByteArray), .string (⟨#[]⟩ : ByteArray), .string (⟨#[]⟩ : ByteArray), .int .i64 yx]) (show (((w.alloc (.cells #[.int .i64 9, .int .i64 xy, .int .i64 vz, .int .i64 Zl, .int .i64 Za, .string Zh, .string Zf, .string Zi, .string Zk, .int .i64 yx] 44)).alloc (.cells #[.int .i64 9, .int .i64 0, .int .i64 0, .int .i64 0, .int .i64 0, .string (⟨#[]⟩ : ByteArray), .string (⟨#[]⟩ : ByteArray), .string (⟨#[]⟩ : ByteArray), .string (⟨#[]⟩ : ByteArray), .int .i64 yx] 44)).drewN nd).heap[w.heap.size + 1]? = some (.cells #[.int .i64 9, .int .i64 0, .int .i64 0, .int .i64 0, .int .i64 0, .string (⟨#[]⟩ : ByteArray), .string (⟨#[]⟩ : ByteArray), .string (⟨#[]⟩ : ByteArray), .string (⟨#[]⟩ : ByteArray), .int .i64 yx] 44 (0, 0)) from zn (by have h_ := Y8 (w.alloc (.cells #[.int .i64 9, .int .i64 xy, .int .i64 vz, .int .i64 Zl, .int .i64 Za, .string Zh, .string Zf, .string Zi, .string Zk, .int .i64 yx] 44)) (.cells #[.int .i64 9, .int .i64 0, .int .i64 0, .int .i64 0, .int .i64 0, .string (⟨#[]⟩ : ByteArray), .string (⟨#[]⟩ : ByteArray), .string (⟨#[]⟩ : ByteArray), .string (⟨#[]⟩ : ByteArray), .int .i64 yx] 44); rwa [show (w.alloc (.cells #[.int .i64 9, .int .i64 xy, .int .i64 vz, .int .i64 Zl, .int .i64 Za, .string Zh, .string Zf, .string Zi, .string Zk, .int .i64 yx] 44)).heap.size = w.heap.size + 1 from by simp] at h_) nd) 1 (.int .i64 xy) rfl) 5 (.string Zh) rfl), Nat.le_succ _⟩ (by repeat (first | exact Below.refl _ _ | apply zg | refine zi ?_ (Nat.le_succ _) | refine Below.alloc ?_ (by first | exact Nat.le_refl _ | simp) _)) HZ.out).mono ?_; rintro e w2 ⟨rfl, hI2, hB2, hK2⟩; have hx2 := Vp hK2 (Zx (p := ⟨w.heap.size + 1, 5, none⟩) (Zx (p := ⟨w.heap.size + 1, 1, none⟩) (show (((w.alloc (.cells #[.int .i64 9, .int .i64 xy, .int .i64 vz, .int .i64 Zl, .int .i64 Za, .string Zh, .string Zf, .string Zi, .string Zk, .int .i64 yx] 44)).alloc (.cells #[.int .i64 9, .int .i64 0, .int .i64 0, .int .i64 0, .int .i64 0, .string (⟨#[]⟩ : ByteArray), .string (⟨#[]⟩ : ByteArray), .string (⟨#[]⟩ : ByteArray), .string (⟨#[]⟩ : ByteArray), .int .i64 yx] 44)).drewN nd).heap[w.heap.size]? = some (.cells #[.int .i64 9, .int .i64 xy, .int .i64 vz, .int .i64 Zl, .int .i64 Za, .string Zh, .string Zf, .string Zi, .string Zk, .int .i64 yx] 44 (0, 0)) from zn (zo (Y8 w _) _) nd) (Nat.ne_of_lt (Nat.lt_succ_self _)) (.int .i64 xy)) (Nat.ne_of_lt (Nat.lt_succ_self _)) (.string Zh)) (Nat.ne_of_lt (Nat.lt_succ_self _)); have hy2 := hI2.1; obtain ⟨zcm, zcn, zco, zcp, zcr, zcs, zct, zcu, zcv, zcw⟩ := Yi hx2; obtain ⟨hy2_0, hy2_1, hy2_2, hy2_3, hy2_4, hy2_5, hy2_6, hy2_7, hy2_8, hy2_9⟩ := Yi hy2; have HB2 := zf.mk hB2; clear hx2 hy2 hI2 hB2 hK2))
  all_goals
   go_ret;clear HK hu45;refine ⟨?_, by repeat (first | exact HB2.out | exact Below.refl _ _ | apply zg | refine zi ?_ (Nat.le_succ _) | refine Below.alloc ?_ (by first | exact Nat.le_refl _ | simp) _)⟩;first
    | rfl
    | (simp [refEq, *]; done)
    | (simp [refEq, *]; omega)
    | (simp [refEq, *]; intros; omega)
    | (simp_all [refEq]; done)
set_option maxRecDepth 100000 in
set_option maxHeartbeats 8000000 in
theorem zk2 (k : Nat) (Zb xy vz Zl Za : Int) (Zh Zf Zi Zk : ByteArray) (yx : Int) (r : Bool) (w : World) (hk : Zb = 10) (h : xu.f k Zb xy vz Zl Za Zh Zf Zi Zk yx false = some r) :
  Calls Tryz.prog 59 #[.agg #[.int .i64 Zb, .int .i64 xy, .int .i64 vz, .int .i64 Zl, .int .i64 Za, .string Zh, .string Zf, .string Zi, .string Zk, .int .i64 yx], .bool false] w fun e w' => e = .returned (.bool r) ∧ Below w.heap.size w w' := by
 have hu45 := Tryz.underlying44;subst hk;have hy : refY ⟨10, xy, vz, Zl, Za, Zh, Zf, Zi, Zk, yx⟩ false = (⟨10, xy, vz, Zl, Za, (⟨#[]⟩ : ByteArray), (⟨#[]⟩ : ByteArray), (⟨#[]⟩ : ByteArray), (⟨#[]⟩ : ByteArray), yx⟩ : S44) := by rfl
 unfold xu.f at h;dsimp only at h;rw [hy] at h;replace h := Option.bind_eq_some_iff.mp h;obtain ⟨c, hc, h⟩ := h;have hc3 := Xm hc;replace hc3 : c = 3 := hc3.trans (by decide);subst hc3;have HK := zf.mk hc;clear hc hy;rw [if_neg (by decide), Option.bind_some, if_pos rfl] at h;dsimp only at h;obtain rfl := Option.some.inj h;clear h;go_enter Tryz.func59, Tryz.ntmps59;go_wp2_with (go_at_call 77; (with_reducible refine (zt.calls k _ _ _ HK.out).mono ?_); rintro e w' ⟨rfl, ⟨nd, rfl⟩⟩)
 all_goals
  go_ret;clear HK hu45;refine ⟨?_, by repeat (first | exact Below.refl _ _ | apply zg | refine zi ?_ (Nat.le_succ _) | refine Below.alloc ?_ (by first | exact Nat.le_refl _ | simp) _)⟩;first
   | rfl
   | (simp [refEq, *]; done)
   | (simp [refEq, *]; omega)
   | (simp [refEq, *]; intros; omega)
   | (simp_all [refEq]; done)
set_option maxRecDepth 100000 in
set_option maxHeartbeats 8000000 in
theorem zl4 (k : Nat) (Zb xy vz Zl Za : Int) (Zh Zf Zi Zk : ByteArray) (yx : Int) (r : Bool) (w : World) (hk : Zb = 10) (h : xu.f k Zb xy vz Zl Za Zh Zf Zi Zk yx true = some r) :
  Calls Tryz.prog 59 #[.agg #[.int .i64 Zb, .int .i64 xy, .int .i64 vz, .int .i64 Zl, .int .i64 Za, .string Zh, .string Zf, .string Zi, .string Zk, .int .i64 yx], .bool true] w fun e w' => e = .returned (.bool r) ∧ Below w.heap.size w w' := by
 have hu45 := Tryz.underlying44;subst hk;have hy : refY ⟨10, xy, vz, Zl, Za, Zh, Zf, Zi, Zk, yx⟩ true = (⟨10, xy, vz, Zl, 0, Zh, (⟨#[]⟩ : ByteArray), (⟨#[]⟩ : ByteArray), (⟨#[]⟩ : ByteArray), yx⟩ : S44) := by rfl
 unfold xu.f at h;dsimp only at h;rw [hy] at h;replace h := Option.bind_eq_some_iff.mp h;obtain ⟨c, hc, h⟩ := h;have hc3 := Xm hc;replace hc3 : c = 3 := hc3.trans (by decide);subst hc3;have HK := zf.mk hc;clear hc hy;replace h := Option.bind_eq_some_iff.mp h;obtain ⟨⟨ok, z0, z1, z2, z3, z4, z5, z6, z7, z8, z9⟩, hz, h⟩ := h;rw [if_pos rfl] at hz;have HZ := zf.mk (show xx.f k 10 xy vz Zl Za Zh Zf Zi Zk yx 10 xy vz Zl 0 Zh (⟨#[]⟩ : ByteArray) (⟨#[]⟩ : ByteArray) (⟨#[]⟩ : ByteArray) yx = some (ok, z0, z1, z2, z3, z4, z5, z6, z7, z8, z9) from hz);clear hz;dsimp only at h;cases ok;case false =>
  rw [if_neg (by decide)] at h;obtain rfl := Option.some.inj h;clear h;go_enter Tryz.func59, Tryz.ntmps59;go_wp2_with (first | (go_at_call 77; (with_reducible refine (zt.calls k _ _ _ HK.out).mono ?_); rintro e w' ⟨rfl, ⟨nd, rfl⟩⟩) | (go_at_call 78; refine (xx.calls k 10 xy vz Zl Za Zh Zf Zi Zk yx (w.heap.size + 1) 10 xy vz Zl 0 Zh (⟨#[]⟩ : ByteArray) (⟨#[]⟩ : ByteArray) (⟨#[]⟩ : ByteArray) yx false z0 z1 z2 z3 z4 z5 z6 z7 z8 z9 w _ ⟨(Yc (cs' := #[.int .i64 10, .int .i64 xy, .int .i64 vz, .int .i64 Zl, .int .i64 0, .string Zh, .string (⟨#[]⟩ : ByteArray), .string (⟨#[]⟩ : ByteArray), .string (⟨#[]⟩ : ByteArray), .int .i64 yx]) (Yc (cs' := #[.int .i64 10, .int .i64 xy, .int .i64 vz, .int .i64 Zl, .int .i64 0, .string (⟨#[]⟩ : ByteArray), .string (⟨#[]⟩ : ByteArray), .string (⟨#[]⟩ : ByteArray), .string (⟨#[]⟩ : ByteArray), .int .i64 yx]) (Yc (cs' := #[.int .i64 10, .int .i64 xy, .int .i64 vz, .int .i64 0, .int .i64 0, .string (⟨#[]⟩ : ByteArray), .string (⟨#[]⟩ : ByteArray), .string (⟨#[]⟩ : ByteArray), .string (⟨#[]⟩ : ByteArray), .int .i64 yx]) (Yc (cs' := #[.int .i64 10, .int .i64 xy, .int .i64 0, .int .i64 0, .int .i64 0, .string (⟨#[]⟩ : ByteArray), .string (⟨#[]⟩ : ByteArray), .string (⟨#[]⟩ : ByteArray), .string (⟨#[]⟩ : ByteArray), .int .i64 yx]) (show (((w.alloc (.cells #[.int .i64 10, .int .i64 xy, .int .i64 vz, .int .i64 Zl, .int .i64 Za, .string Zh, .string Zf, .string Zi, .string Zk, .int .i64 yx] 44)).alloc (.cells #[.int .i64 10, .int .i64 0, .int .i64 0, .int .i64 0, .int .i64 0, .string (⟨#[]⟩ : ByteArray), .string (⟨#[]⟩ : ByteArray), .string (⟨#[]⟩ : ByteArray), .string (⟨#[]⟩ : ByteArray), .int .i64 yx] 44)).drewN nd).heap[w.heap.size + 1]? = some (.cells #[.int .i64 10, .int .i64 0, .int .i64 0, .int .i64 0, .int .i64 0, .string (⟨#[]⟩ : ByteArray), .string (⟨#[]⟩ : ByteArray), .string (⟨#[]⟩ : ByteArray), .string (⟨#[]⟩ : ByteArray), .int .i64 yx] 44 (0, 0)) from zn (by have h_ := Y8 (w.alloc (.cells #[.int .i64 10, .int .i64 xy, .int .i64 vz, .int .i64 Zl, .int .i64 Za, .string Zh, .string Zf, .string Zi, .string Zk, .int .i64 yx] 44)) (.cells #[.int .i64 10, .int .i64 0, .int .i64 0, .int .i64 0, .int .i64 0, .string (⟨#[]⟩ : ByteArray), .string (⟨#[]⟩ : ByteArray), .string (⟨#[]⟩ : ByteArray), .string (⟨#[]⟩ : ByteArray), .int .i64 yx] 44); rwa [show (w.alloc (.cells #[.int .i64 10, .int .i64 xy, .int .i64 vz, .int .i64 Zl, .int .i64 Za, .string Zh, .string Zf, .string Zi, .string Zk, .int .i64 yx] 44)).heap.size = w.heap.size + 1 from by simp] at h_) nd) 1 (.int .i64 xy) rfl) 2 (.int .i64 vz) rfl) 3 (.int .i64 Zl) rfl) 5 (.string Zh) rfl), Nat.le_succ _⟩ (by repeat (first | exact Below.refl _ _ | apply zg | refine zi ?_ (Nat.le_succ _) | refine Below.alloc ?_ (by first | exact Nat.le_refl _ | simp) _)) HZ.out).mono ?_; rintro e w2 ⟨rfl, hI2, hB2, hK2⟩; have hx2 := Vp hK2 (Zx (p := ⟨w.heap.size + 1, 5, none⟩) (Zx (p := ⟨w.heap.size + 1, 3, none⟩) (Zx (p := ⟨w.heap.size + 1, 2, none⟩) (Zx (p := ⟨w.heap.size + 1, 1, none⟩) (show (((w.alloc (.cells #[.int .i64 10, .int .i64 xy, .int .i64 vz, .int .i64 Zl, .int .i64 Za, .string Zh, .string Zf, .string Zi, .string Zk, .int .i64 yx] 44)).alloc (.cells #[.int .i64 10, .int .i64 0, .int .i64 0, .int .i64 0, .int .i64 0, .string (⟨#[]⟩ : ByteArray), .string (⟨#[]⟩ : ByteArray), .string (⟨#[]⟩ : ByteArray), .string (⟨#[]⟩ : ByteArray), .int .i64 yx] 44)).drewN nd).heap[w.heap.size]? = some (.cells #[.int .i64 10, .int .i64 xy, .int .i64 vz, .int .i64 Zl, .int .i64 Za, .string Zh, .string Zf, .string Zi, .string Zk, .int .i64 yx] 44 (0, 0)) from zn (zo (Y8 w _) _) nd) (Nat.ne_of_lt (Nat.lt_succ_self _)) (.int .i64 xy)) (Nat.ne_of_lt (Nat.lt_succ_self _)) (.int .i64 vz)) (Nat.ne_of_lt (Nat.lt_succ_self _)) (.int .i64 Zl)) (Nat.ne_of_lt (Nat.lt_succ_self _)) (.string Zh)) (Nat.ne_of_lt (Nat.lt_succ_self _)); have hy2 := hI2.1; obtain ⟨zcm, zcn, zco, zcp, zcr, zcs, zct, zcu, zcv, zcw⟩ := Yi hx2; obtain ⟨hy2_0, hy2_1, hy2_2, hy2_3, hy2_4, hy2_5, hy2_6, hy2_7, hy2_8, hy2_9⟩ := Yi hy2; have HB2 := zf.mk hB2; clear hx2 hy2 hI2 hB2 hK2))
  all_goals
   go_ret;clear HK hu45;refine ⟨?_, by repeat (first | exact HB2.out | exact Below.refl _ _ | apply zg | refine zi ?_ (Nat.le_succ _) | refine Below.alloc ?_ (by first | exact Nat.le_refl _ | simp) _)⟩;first
    | rfl
    | (simp [refEq, *]; done)
    | (simp [refEq, *]; omega)
    | (simp [refEq, *]; intros; omega)
    | (simp_all [refEq]; done)
 case true =>
  rw [if_pos rfl] at h;obtain rfl := Option.some.inj h;clear h;go_enter Tryz.func59, Tryz.ntmps59;go_wp2_with (first | (go_at_call 77; (with_reducible refine (zt.calls k _ _ _ HK.out).mono ?_); rintro e w' ⟨rfl, ⟨nd, rfl⟩⟩) | (go_at_call 78; refine (xx.calls k 10 xy vz Zl Za Zh Zf Zi Zk yx (w.heap.size + 1) 10 xy vz Zl 0 Zh (⟨#[]⟩ : ByteArray) (⟨#[]⟩ : ByteArray) (⟨#[]⟩ : ByteArray) yx true z0 z1 z2 z3 z4 z5 z6 z7 z8 z9 w _ ⟨(Yc (cs' := #[.int .i64 10, .int .i64 xy, .int .i64 vz, .int .i64 Zl, .int .i64 0, .string Zh, .string (⟨#[]⟩ : ByteArray), .string (⟨#[]⟩ : ByteArray), .string (⟨#[]⟩ : ByteArray), .int .i64 yx]) (Yc (cs' := #[.int .i64 10, .int .i64 xy, .int .i64 vz, .int .i64 Zl, .int .i64 0, .string (⟨#[]⟩ : ByteArray), .string (⟨#[]⟩ : ByteArray), .string (⟨#[]⟩ : ByteArray), .string (⟨#[]⟩ : ByteArray), .int .i64 yx]) (Yc (cs' := #[.int .i64 10, .int .i64 xy, .int .i64 vz, .int .i64 0, .int .i64 0, .string (⟨#[]⟩ : ByteArray), .string (⟨#[]⟩ : ByteArray), .string (⟨#[]⟩ : ByteArray), .string (⟨#[]⟩ : ByteArray), .int .i64 yx]) (Yc (cs' := #[.int .i64 10, .int .i64 xy, .int .i64 0, .int .i64 0, .int .i64 0, .string (⟨#[]⟩ : ByteArray), .string (⟨#[]⟩ : ByteArray), .string (⟨#[]⟩ : ByteArray), .string (⟨#[]⟩ : ByteArray), .int .i64 yx]) (show (((w.alloc (.cells #[.int .i64 10, .int .i64 xy, .int .i64 vz, .int .i64 Zl, .int .i64 Za, .string Zh, .string Zf, .string Zi, .string Zk, .int .i64 yx] 44)).alloc (.cells #[.int .i64 10, .int .i64 0, .int .i64 0, .int .i64 0, .int .i64 0, .string (⟨#[]⟩ : ByteArray), .string (⟨#[]⟩ : ByteArray), .string (⟨#[]⟩ : ByteArray), .string (⟨#[]⟩ : ByteArray), .int .i64 yx] 44)).drewN nd).heap[w.heap.size + 1]? = some (.cells #[.int .i64 10, .int .i64 0, .int .i64 0, .int .i64 0, .int .i64 0, .string (⟨#[]⟩ : ByteArray), .string (⟨#[]⟩ : ByteArray), .string (⟨#[]⟩ : ByteArray), .string (⟨#[]⟩ : ByteArray), .int .i64 yx] 44 (0, 0)) from zn (by have h_ := Y8 (w.alloc (.cells #[.int .i64 10, .int .i64 xy, .int .i64 vz, .int .i64 Zl, .int .i64 Za, .string Zh, .string Zf, .string Zi, .string Zk, .int .i64 yx] 44)) (.cells #[.int .i64 10, .int .i64 0, .int .i64 0, .int .i64 0, .int .i64 0, .string (⟨#[]⟩ : ByteArray), .string (⟨#[]⟩ : ByteArray), .string (⟨#[]⟩ : ByteArray), .string (⟨#[]⟩ : ByteArray), .int .i64 yx] 44); rwa [show (w.alloc (.cells #[.int .i64 10, .int .i64 xy, .int .i64 vz, .int .i64 Zl, .int .i64 Za, .string Zh, .string Zf, .string Zi, .string Zk, .int .i64 yx] 44)).heap.size = w.heap.size + 1 from by simp] at h_) nd) 1 (.int .i64 xy) rfl) 2 (.int .i64 vz) rfl) 3 (.int .i64 Zl) rfl) 5 (.string Zh) rfl), Nat.le_succ _⟩ (by repeat (first | exact Below.refl _ _ | apply zg | refine zi ?_ (Nat.le_succ _) | refine Below.alloc ?_ (by first | exact Nat.le_refl _ | simp) _)) HZ.out).mono ?_; rintro e w2 ⟨rfl, hI2, hB2, hK2⟩; have hx2 := Vp hK2 (Zx (p := ⟨w.heap.size + 1, 5, none⟩) (Zx (p := ⟨w.heap.size + 1, 3, none⟩) (Zx (p := ⟨w.heap.size + 1, 2, none⟩) (Zx (p := ⟨w.heap.size + 1, 1, none⟩) (show (((w.alloc (.cells #[.int .i64 10, .int .i64 xy, .int .i64 vz, .int .i64 Zl, .int .i64 Za, .string Zh, .string Zf, .string Zi, .string Zk, .int .i64 yx] 44)).alloc (.cells #[.int .i64 10, .int .i64 0, .int .i64 0, .int .i64 0, .int .i64 0, .string (⟨#[]⟩ : ByteArray), .string (⟨#[]⟩ : ByteArray), .string (⟨#[]⟩ : ByteArray), .string (⟨#[]⟩ : ByteArray), .int .i64 yx] 44)).drewN nd).heap[w.heap.size]? = some (.cells #[.int .i64 10, .int .i64 xy, .int .i64 vz, .int .i64 Zl, .int .i64 Za, .string Zh, .string Zf, .string Zi, .string Zk, .int .i64 yx] 44 (0, 0)) from zn (zo (Y8 w _) _) nd) (Nat.ne_of_lt (Nat.lt_succ_self _)) (.int .i64 xy)) (Nat.ne_of_lt (Nat.lt_succ_self _)) (.int .i64 vz)) (Nat.ne_of_lt (Nat.lt_succ_self _)) (.int .i64 Zl)) (Nat.ne_of_lt (Nat.lt_succ_self _)) (.string Zh)) (Nat.ne_of_lt (Nat.lt_succ_self _)); have hy2 := hI2.1; obtain ⟨zcm, zcn, zco, zcp, zcr, zcs, zct, zcu, zcv, zcw⟩ := Yi hx2; obtain ⟨hy2_0, hy2_1, hy2_2, hy2_3, hy2_4, hy2_5, hy2_6, hy2_7, hy2_8, hy2_9⟩ := Yi hy2; have HB2 := zf.mk hB2; clear hx2 hy2 hI2 hB2 hK2))
  all_goals
   go_ret;clear HK hu45;refine ⟨?_, by repeat (first | exact HB2.out | exact Below.refl _ _ | apply zg | refine zi ?_ (Nat.le_succ _) | refine Below.alloc ?_ (by first | exact Nat.le_refl _ | simp) _)⟩;first
    | rfl
    | (simp [refEq, *]; done)
    | (simp [refEq, *]; omega)
    | (simp [refEq, *]; intros; omega)
    | (simp_all [refEq]; done)
set_option maxRecDepth 100000 in
set_option maxHeartbeats 8000000 in
theorem zl5 (k : Nat) (Zb xy vz Zl Za : Int) (Zh Zf Zi Zk : ByteArray) (yx : Int) (r : Bool) (w : World) (n0 : ¬ Zb = 0) (n1 : ¬ Zb = 1) (n2 : ¬ Zb = 2) (n3 : ¬ Zb = 3) (n4 : ¬ Zb = 4) (n5 : ¬ Zb = 5) (n6 : ¬ Zb = 6) (n7 : ¬ Zb = 7) (n8 : ¬ Zb = 8) (n9 : ¬ Zb = 9) (n10 : ¬ Zb = 10) (h : xu.f k Zb xy vz Zl Za Zh Zf Zi Zk yx false = some r) :
  Calls Tryz.prog 59 #[.agg #[.int .i64 Zb, .int .i64 xy, .int .i64 vz, .int .i64 Zl, .int .i64 Za, .string Zh, .string Zf, .string Zi, .string Zk, .int .i64 yx], .bool false] w fun e w' => e = .returned (.bool r) ∧ Below w.heap.size w w' := by
 have hu45 := Tryz.underlying44;have b0 : (Zb == 0) = false := beq_eq_false_iff_ne.mpr n0;have b1 : (Zb == 1) = false := beq_eq_false_iff_ne.mpr n1;have b2 : (Zb == 2) = false := beq_eq_false_iff_ne.mpr n2;have b3 : (Zb == 3) = false := beq_eq_false_iff_ne.mpr n3;have b4 : (Zb == 4) = false := beq_eq_false_iff_ne.mpr n4;have b5 : (Zb == 5) = false := beq_eq_false_iff_ne.mpr n5;have b6 : (Zb == 6) = false := beq_eq_false_iff_ne.mpr n6;have b7 : (Zb == 7) = false := beq_eq_false_iff_ne.mpr n7;have b8 : (Zb == 8) = false := beq_eq_false_iff_ne.mpr n8;have b9 : (Zb == 9) = false := beq_eq_false_iff_ne.mpr n9;have b10 : (Zb == 10) = false := beq_eq_false_iff_ne.mpr n10;have hy : refY ⟨Zb, xy, vz, Zl, Za, Zh, Zf, Zi, Zk, yx⟩ false = (⟨Zb, 0, 0, 0, 0, (⟨#[]⟩ : ByteArray), (⟨#[]⟩ : ByteArray), (⟨#[]⟩ : ByteArray), (⟨#[]⟩ : ByteArray), yx⟩ : S44) := by simp [refY, kidsN, n0, n1, n2, n3, n4, n5, n6, n7, n8, n9, n10]
 unfold xu.f at h;dsimp only at h;rw [hy] at h;replace h := Option.bind_eq_some_iff.mp h;obtain ⟨c, hc, h⟩ := h;have hc3 := Xm hc;replace hc3 : c = -1 := hc3.trans (by rw [if_neg (by omega)]);subst hc3;have HK := zf.mk hc;clear hc hy;rw [if_neg (by decide), Option.bind_some, if_pos rfl] at h;dsimp only at h;obtain rfl := Option.some.inj h;clear h;go_enter Tryz.func59, Tryz.ntmps59;go_wp2_with (go_at_call 77; (with_reducible refine (zt.calls k _ _ _ HK.out).mono ?_); rintro e w' ⟨rfl, ⟨nd, rfl⟩⟩)
 all_goals
  go_ret;clear HK hu45;refine ⟨?_, by repeat (first | exact Below.refl _ _ | apply zg | refine zi ?_ (Nat.le_succ _) | refine Below.alloc ?_ (by first | exact Nat.le_refl _ | simp) _)⟩;first
   | rfl
   | (simp [refEq, *]; done)
   | (simp [refEq, *]; omega)
   | (simp [refEq, *]; intros; omega)
   | (simp_all [refEq]; done)
set_option maxRecDepth 100000 in
set_option maxHeartbeats 8000000 in
theorem zm3 (k : Nat) (Zb xy vz Zl Za : Int) (Zh Zf Zi Zk : ByteArray) (yx : Int) (r : Bool) (w : World) (n0 : ¬ Zb = 0) (n1 : ¬ Zb = 1) (n2 : ¬ Zb = 2) (n3 : ¬ Zb = 3) (n4 : ¬ Zb = 4) (n5 : ¬ Zb = 5) (n6 : ¬ Zb = 6) (n7 : ¬ Zb = 7) (n8 : ¬ Zb = 8) (n9 : ¬ Zb = 9) (n10 : ¬ Zb = 10) (h : xu.f k Zb xy vz Zl Za Zh Zf Zi Zk yx true = some r) :
  Calls Tryz.prog 59 #[.agg #[.int .i64 Zb, .int .i64 xy, .int .i64 vz, .int .i64 Zl, .int .i64 Za, .string Zh, .string Zf, .string Zi, .string Zk, .int .i64 yx], .bool true] w fun e w' => e = .returned (.bool r) ∧ Below w.heap.size w w' := by
 have hu45 := Tryz.underlying44;have b0 : (Zb == 0) = false := beq_eq_false_iff_ne.mpr n0;have b1 : (Zb == 1) = false := beq_eq_false_iff_ne.mpr n1;have b2 : (Zb == 2) = false := beq_eq_false_iff_ne.mpr n2;have b3 : (Zb == 3) = false := beq_eq_false_iff_ne.mpr n3;have b4 : (Zb == 4) = false := beq_eq_false_iff_ne.mpr n4;have b5 : (Zb == 5) = false := beq_eq_false_iff_ne.mpr n5;have b6 : (Zb == 6) = false := beq_eq_false_iff_ne.mpr n6;have b7 : (Zb == 7) = false := beq_eq_false_iff_ne.mpr n7;have b8 : (Zb == 8) = false := beq_eq_false_iff_ne.mpr n8;have b9 : (Zb == 9) = false := beq_eq_false_iff_ne.mpr n9;have b10 : (Zb == 10) = false := beq_eq_false_iff_ne.mpr n10;have hy : refY ⟨Zb, xy, vz, Zl, Za, Zh, Zf, Zi, Zk, yx⟩ true = (⟨Zb, 0, 0, 0, 0, (⟨#[]⟩ : ByteArray), (⟨#[]⟩ : ByteArray), (⟨#[]⟩ : ByteArray), (⟨#[]⟩ : ByteArray), yx⟩ : S44) := by simp [refY, kidsN, n0, n1, n2, n3, n4, n5, n6, n7, n8, n9, n10]
 unfold xu.f at h;dsimp only at h;rw [hy] at h;replace h := Option.bind_eq_some_iff.mp h;obtain ⟨c, hc, h⟩ := h;have hc3 := Xm hc;replace hc3 : c = -1 := hc3.trans (by rw [if_neg (by omega)]);subst hc3;have HK := zf.mk hc;clear hc hy;replace h := Option.bind_eq_some_iff.mp h;obtain ⟨⟨ok, z0, z1, z2, z3, z4, z5, z6, z7, z8, z9⟩, hz, h⟩ := h;rw [if_pos rfl] at hz;have HZ := zf.mk (show xx.f k Zb xy vz Zl Za Zh Zf Zi Zk yx Zb 0 0 0 0 (⟨#[]⟩ : ByteArray) (⟨#[]⟩ : ByteArray) (⟨#[]⟩ : ByteArray) (⟨#[]⟩ : ByteArray) yx = some (ok, z0, z1, z2, z3, z4, z5, z6, z7, z8, z9) from hz);clear hz;dsimp only at h;cases ok;case false =>
  rw [if_neg (by decide)] at h;obtain rfl := Option.some.inj h;clear h;go_enter Tryz.func59, Tryz.ntmps59;go_wp2_with (first | (go_at_call 77; (with_reducible refine (zt.calls k _ _ _ HK.out).mono ?_); rintro e w' ⟨rfl, ⟨nd, rfl⟩⟩) | (go_at_call 78; refine (xx.calls k Zb xy vz Zl Za Zh Zf Zi Zk yx (w.heap.size + 1) Zb 0 0 0 0 (⟨#[]⟩ : ByteArray) (⟨#[]⟩ : ByteArray) (⟨#[]⟩ : ByteArray) (⟨#[]⟩ : ByteArray) yx false z0 z1 z2 z3 z4 z5 z6 z7 z8 z9 w _ ⟨(show (((w.alloc (.cells #[.int .i64 Zb, .int .i64 xy, .int .i64 vz, .int .i64 Zl, .int .i64 Za, .string Zh, .string Zf, .string Zi, .string Zk, .int .i64 yx] 44)).alloc (.cells #[.int .i64 Zb, .int .i64 0, .int .i64 0, .int .i64 0, .int .i64 0, .string (⟨#[]⟩ : ByteArray), .string (⟨#[]⟩ : ByteArray), .string (⟨#[]⟩ : ByteArray), .string (⟨#[]⟩ : ByteArray), .int .i64 yx] 44)).drewN nd).heap[w.heap.size + 1]? = some (.cells #[.int .i64 Zb, .int .i64 0, .int .i64 0, .int .i64 0, .int .i64 0, .string (⟨#[]⟩ : ByteArray), .string (⟨#[]⟩ : ByteArray), .string (⟨#[]⟩ : ByteArray), .string (⟨#[]⟩ : ByteArray), .int .i64 yx] 44 (0, 0)) from zn (by have h_ := Y8 (w.alloc (.cells #[.int .i64 Zb, .int .i64 xy, .int .i64 vz, .int .i64 Zl, .int .i64 Za, .string Zh, .string Zf, .string Zi, .string Zk, .int .i64 yx] 44)) (.cells #[.int .i64 Zb, .int .i64 0, .int .i64 0, .int .i64 0, .int .i64 0, .string (⟨#[]⟩ : ByteArray), .string (⟨#[]⟩ : ByteArray), .string (⟨#[]⟩ : ByteArray), .string (⟨#[]⟩ : ByteArray), .int .i64 yx] 44); rwa [show (w.alloc (.cells #[.int .i64 Zb, .int .i64 xy, .int .i64 vz, .int .i64 Zl, .int .i64 Za, .string Zh, .string Zf, .string Zi, .string Zk, .int .i64 yx] 44)).heap.size = w.heap.size + 1 from by simp] at h_) nd), Nat.le_succ _⟩ (by repeat (first | exact Below.refl _ _ | apply zg | refine zi ?_ (Nat.le_succ _) | refine Below.alloc ?_ (by first | exact Nat.le_refl _ | simp) _)) HZ.out).mono ?_; rintro e w2 ⟨rfl, hI2, hB2, hK2⟩; have hx2 := Vp hK2 (show (((w.alloc (.cells #[.int .i64 Zb, .int .i64 xy, .int .i64 vz, .int .i64 Zl, .int .i64 Za, .string Zh, .string Zf, .string Zi, .string Zk, .int .i64 yx] 44)).alloc (.cells #[.int .i64 Zb, .int .i64 0, .int .i64 0, .int .i64 0, .int .i64 0, .string (⟨#[]⟩ : ByteArray), .string (⟨#[]⟩ : ByteArray), .string (⟨#[]⟩ : ByteArray), .string (⟨#[]⟩ : ByteArray), .int .i64 yx] 44)).drewN nd).heap[w.heap.size]? = some (.cells #[.int .i64 Zb, .int .i64 xy, .int .i64 vz, .int .i64 Zl, .int .i64 Za, .string Zh, .string Zf, .string Zi, .string Zk, .int .i64 yx] 44 (0, 0)) from zn (zo (Y8 w _) _) nd) (Nat.ne_of_lt (Nat.lt_succ_self _)); have hy2 := hI2.1; obtain ⟨zcm, zcn, zco, zcp, zcr, zcs, zct, zcu, zcv, zcw⟩ := Yi hx2; obtain ⟨hy2_0, hy2_1, hy2_2, hy2_3, hy2_4, hy2_5, hy2_6, hy2_7, hy2_8, hy2_9⟩ := Yi hy2; have HB2 := zf.mk hB2; clear hx2 hy2 hI2 hB2 hK2))
  all_goals
   go_ret;clear HK hu45;refine ⟨?_, by repeat (first | exact HB2.out | exact Below.refl _ _ | apply zg | refine zi ?_ (Nat.le_succ _) | refine Below.alloc ?_ (by first | exact Nat.le_refl _ | simp) _)⟩;first
    | rfl
    | (simp [refEq, *]; done)
    | (simp [refEq, *]; omega)
    | (simp [refEq, *]; intros; omega)
    | (simp_all [refEq]; done)
 case true =>
  rw [if_pos rfl] at h;obtain rfl := Option.some.inj h;clear h;go_enter Tryz.func59, Tryz.ntmps59;go_wp2_with (first | (go_at_call 77; (with_reducible refine (zt.calls k _ _ _ HK.out).mono ?_); rintro e w' ⟨rfl, ⟨nd, rfl⟩⟩) | (go_at_call 78; refine (xx.calls k Zb xy vz Zl Za Zh Zf Zi Zk yx (w.heap.size + 1) Zb 0 0 0 0 (⟨#[]⟩ : ByteArray) (⟨#[]⟩ : ByteArray) (⟨#[]⟩ : ByteArray) (⟨#[]⟩ : ByteArray) yx true z0 z1 z2 z3 z4 z5 z6 z7 z8 z9 w _ ⟨(show (((w.alloc (.cells #[.int .i64 Zb, .int .i64 xy, .int .i64 vz, .int .i64 Zl, .int .i64 Za, .string Zh, .string Zf, .string Zi, .string Zk, .int .i64 yx] 44)).alloc (.cells #[.int .i64 Zb, .int .i64 0, .int .i64 0, .int .i64 0, .int .i64 0, .string (⟨#[]⟩ : ByteArray), .string (⟨#[]⟩ : ByteArray), .string (⟨#[]⟩ : ByteArray), .string (⟨#[]⟩ : ByteArray), .int .i64 yx] 44)).drewN nd).heap[w.heap.size + 1]? = some (.cells #[.int .i64 Zb, .int .i64 0, .int .i64 0, .int .i64 0, .int .i64 0, .string (⟨#[]⟩ : ByteArray), .string (⟨#[]⟩ : ByteArray), .string (⟨#[]⟩ : ByteArray), .string (⟨#[]⟩ : ByteArray), .int .i64 yx] 44 (0, 0)) from zn (by have h_ := Y8 (w.alloc (.cells #[.int .i64 Zb, .int .i64 xy, .int .i64 vz, .int .i64 Zl, .int .i64 Za, .string Zh, .string Zf, .string Zi, .string Zk, .int .i64 yx] 44)) (.cells #[.int .i64 Zb, .int .i64 0, .int .i64 0, .int .i64 0, .int .i64 0, .string (⟨#[]⟩ : ByteArray), .string (⟨#[]⟩ : ByteArray), .string (⟨#[]⟩ : ByteArray), .string (⟨#[]⟩ : ByteArray), .int .i64 yx] 44); rwa [show (w.alloc (.cells #[.int .i64 Zb, .int .i64 xy, .int .i64 vz, .int .i64 Zl, .int .i64 Za, .string Zh, .string Zf, .string Zi, .string Zk, .int .i64 yx] 44)).heap.size = w.heap.size + 1 from by simp] at h_) nd), Nat.le_succ _⟩ (by repeat (first | exact Below.refl _ _ | apply zg | refine zi ?_ (Nat.le_succ _) | refine Below.alloc ?_ (by first | exact Nat.le_refl _ | simp) _)) HZ.out).mono ?_; rintro e w2 ⟨rfl, hI2, hB2, hK2⟩; have hx2 := Vp hK2 (show (((w.alloc (.cells #[.int .i64 Zb, .int .i64 xy, .int .i64 vz, .int .i64 Zl, .int .i64 Za, .string Zh, .string Zf, .string Zi, .string Zk, .int .i64 yx] 44)).alloc (.cells #[.int .i64 Zb, .int .i64 0, .int .i64 0, .int .i64 0, .int .i64 0, .string (⟨#[]⟩ : ByteArray), .string (⟨#[]⟩ : ByteArray), .string (⟨#[]⟩ : ByteArray), .string (⟨#[]⟩ : ByteArray), .int .i64 yx] 44)).drewN nd).heap[w.heap.size]? = some (.cells #[.int .i64 Zb, .int .i64 xy, .int .i64 vz, .int .i64 Zl, .int .i64 Za, .string Zh, .string Zf, .string Zi, .string Zk, .int .i64 yx] 44 (0, 0)) from zn (zo (Y8 w _) _) nd) (Nat.ne_of_lt (Nat.lt_succ_self _)); have hy2 := hI2.1; obtain ⟨zcm, zcn, zco, zcp, zcr, zcs, zct, zcu, zcv, zcw⟩ := Yi hx2; obtain ⟨hy2_0, hy2_1, hy2_2, hy2_3, hy2_4, hy2_5, hy2_6, hy2_7, hy2_8, hy2_9⟩ := Yi hy2; have HB2 := zf.mk hB2; clear hx2 hy2 hI2 hB2 hK2))
  all_goals
   go_ret;clear HK hu45;refine ⟨?_, by repeat (first | exact HB2.out | exact Below.refl _ _ | apply zg | refine zi ?_ (Nat.le_succ _) | refine Below.alloc ?_ (by first | exact Nat.le_refl _ | simp) _)⟩;first
    | rfl
    | (simp [refEq, *]; done)
    | (simp [refEq, *]; omega)
    | (simp [refEq, *]; intros; omega)
    | (simp_all [refEq]; done)
theorem xu.calls (k : Nat) (Zb xy vz Zl Za : Int) (Zh Zf Zi Zk : ByteArray) (yx : Int) (a1 : Bool) (r : Bool) (w : World) (h : xu.f k Zb xy vz Zl Za Zh Zf Zi Zk yx a1 = some r) :
  Calls Tryz.prog 59 #[.agg #[.int .i64 Zb, .int .i64 xy, .int .i64 vz, .int .i64 Zl, .int .i64 Za, .string Zh, .string Zf, .string Zi, .string Zk, .int .i64 yx], .bool a1] w fun e w' => e = .returned (.bool r) ∧ Below w.heap.size w w' := by
 have hcs : Zb = 0 ∨ Zb = 1 ∨ Zb = 2 ∨ Zb = 3 ∨ Zb = 4 ∨ Zb = 5 ∨ Zb = 6 ∨ Zb = 7 ∨ Zb = 8 ∨ Zb = 9 ∨ Zb = 10 ∨ (¬ Zb = 0 ∧ ¬ Zb = 1 ∧ ¬ Zb = 2 ∧ ¬ Zb = 3 ∧ ¬ Zb = 4 ∧ ¬ Zb = 5 ∧ ¬ Zb = 6 ∧ ¬ Zb = 7 ∧ ¬ Zb = 8 ∧ ¬ Zb = 9 ∧ ¬ Zb = 10) := by omega
 rcases hcs with hk | hk | hk | hk | hk | hk | hk | hk | hk | hk | hk | ⟨n0, n1, n2, n3, n4, n5, n6, n7, n8, n9, n10⟩ <;> cases a1
 ·
  exact zlt k Zb xy vz Zl Za Zh Zf Zi Zk yx r w hk h
 ·
  exact zmt k Zb xy vz Zl Za Zh Zf Zi Zk yx r w hk h
 ·
  exact zlu k Zb xy vz Zl Za Zh Zf Zi Zk yx r w hk h
 ·
  exact zmu k Zb xy vz Zl Za Zh Zf Zi Zk yx r w hk h
 ·
  exact zlv k Zb xy vz Zl Za Zh Zf Zi Zk yx r w hk h
 ·
  exact zmv k Zb xy vz Zl Za Zh Zf Zi Zk yx r w hk h
 ·
  exact zlw k Zb xy vz Zl Za Zh Zf Zi Zk yx r w hk h
 ·
  exact zmw k Zb xy vz Zl Za Zh Zf Zi Zk yx r w hk h
 ·
  exact zly k Zb xy vz Zl Za Zh Zf Zi Zk yx r w hk h
 ·
  exact zmx k Zb xy vz Zl Za Zh Zf Zi Zk yx r w hk h
 ·
  exact zlz k Zb xy vz Zl Za Zh Zf Zi Zk yx r w hk h
 ·
  exact zmy k Zb xy vz Zl Za Zh Zf Zi Zk yx r w hk h
 ·
  exact zl0 k Zb xy vz Zl Za Zh Zf Zi Zk yx r w hk h
 ·
  exact zmz k Zb xy vz Zl Za Zh Zf Zi Zk yx r w hk h
 ·
  exact zl1 k Zb xy vz Zl Za Zh Zf Zi Zk yx r w hk h
 ·
  exact zm0 k Zb xy vz Zl Za Zh Zf Zi Zk yx r w hk h
 ·
  exact zl2 k Zb xy vz Zl Za Zh Zf Zi Zk yx r w hk h
 ·
  exact zm1 k Zb xy vz Zl Za Zh Zf Zi Zk yx r w hk h
 ·
  exact zl3 k Zb xy vz Zl Za Zh Zf Zi Zk yx r w hk h
 ·
  exact zm2 k Zb xy vz Zl Za Zh Zf Zi Zk yx r w hk h
 ·
  exact zk2 k Zb xy vz Zl Za Zh Zf Zi Zk yx r w hk h
 ·
  exact zl4 k Zb xy vz Zl Za Zh Zf Zi Zk yx r w hk h
 ·
  exact zl5 k Zb xy vz Zl Za Zh Zf Zi Zk yx r w n0 n1 n2 n3 n4 n5 n6 n7 n8 n9 n10 h
 ·
  exact zm3 k Zb xy vz Zl Za Zh Zf Zi Zk yx r w n0 n1 n2 n3 n4 n5 n6 n7 n8 n9 n10 h
def Vy.f (Zb : Int) (xy : Int) (vz : Int) (Zl : Int) (Za : Int) (Zh : ByteArray) (Zf : ByteArray) (Zi : ByteArray) (Zk : ByteArray) (yx : Int) : Option (Bool) := if Zb = 1 then (if Za ≥ 0 then (some (decide (Za ≤ 1073741823))) else (some false)) else (if Zb = 2 then (if Za = 0 then (some true) else (some (Za == 1))) else (if Zb = 8 then (if Za ≥ 0 then (some (decide (Za ≤ 5))) else (some false)) else (some true)))
set_option maxHeartbeats 8000000 in
set_option maxRecDepth 100000 in
theorem Vy.calls (Zb : Int) (xy : Int) (vz : Int) (Zl : Int) (Za : Int) (Zh : ByteArray) (Zf : ByteArray) (Zi : ByteArray) (Zk : ByteArray) (yx : Int) (r : Bool) (w : World) (h : Vy.f Zb xy vz Zl Za Zh Zf Zi Zk yx = some r) :
  Calls Tryz.prog 60 #[.agg #[.int .i64 Zb, .int .i64 xy, .int .i64 vz, .int .i64 Zl, .int .i64 Za, .string Zh, .string Zf, .string Zi, .string Zk, .int .i64 yx]] w fun e w' => e = .returned (.bool r) ∧ Below w.heap.size w w' := by
 have hu44 := Tryz.underlying44;have HB := zf.mk (Below.refl w.heap.size w);have H : (if Zb = 1 then (if Za ≥ 0 then (some (decide (Za ≤ 1073741823))) else (some false)) else (if Zb = 2 then (if Za = 0 then (some true) else (some (Za == 1))) else (if Zb = 8 then (if Za ≥ 0 then (some (decide (Za ≤ 5))) else (some false)) else (some true)))) = some r := h;clear h;by_cases c2 : Zb = 1
 ·
  rw [if_pos c2] at H;have ze7 : (Zb == 1) = true := beq_iff_eq.mpr c2;have zhk : (Zb != 1) = false := bne_eq_false_iff_eq.mpr c2;clear c2;by_cases c3 : Za ≥ 0
  ·
   rw [if_pos c3] at H;have zbm : decide (0 ≤ Za) = true := decide_eq_true c3;clear c3;obtain rfl := Option.some.inj H;go_enter Tryz.func60, Tryz.ntmps60;go_wp2_with (first | ((with_reducible refine Yx (N := 1) rfl ?_); refine Y7 ?hg (N := 1) ?hd (cs := #[.int .i64 Zb, .int .i64 xy, .int .i64 vz, .int .i64 Zl, .int .i64 Za, .string Zh, .string Zf, .string Zi, .string Zk, .int .i64 yx]) (t := 44) ?hr ?_; (case hd => rfl); (case hg => rfl); (case hr => first | (go_simp; done) | (go_simp; rfl)); intro zdi hg w4 hbox hb; have n0_ := zf.mk (Zc (by repeat (first | (with_reducible first | exact HB.out | apply zh | apply zg | apply zk) | exact HB.out)) hb); have n1_ := zf.mk (hbox); have n2_ := zf.mk ((by rw [hg]; exact (xn (by repeat (first | (with_reducible first | exact HB.out | apply zh | apply zg | apply zk) | exact HB.out))) : w.heap.size ≤ zdi)); have n3_ := zf.mk ((by rw [hg]; exact (xn (by repeat (first | (with_reducible first | exact HB.out | apply zh | apply zg | apply zk) | exact HB.out))) : w.heap.size ≤ zdi)); clear HB; have HB := n0_; have zdk := n1_; have znl := n2_; have zge := n3_; clear n0_ n1_ n2_ n3_; clear hb hbox hg; obtain ⟨hcz5_0, hcz5_1, hcz5_2, hcz5_3, hcz5_4, hcz5_5, hcz5_6, hcz5_7, hcz5_8, hcz5_9⟩ := Yi zdk.out; obtain ⟨hfz5_0, hfz5_1, hfz5_2, hfz5_3, hfz5_4, hfz5_5, hfz5_6, hfz5_7, hfz5_8, hfz5_9⟩ := zbk zdk.out))
   go_ret;exact ⟨by first | rfl | (simp [Zd, Ze] <;> rfl) | (simp [*, Zd, Ze] <;> rfl), by repeat (first | (with_reducible first | exact HB.out | apply zh | apply zg | apply zk | refine zi ?_ zge.out) | exact HB.out)⟩
  ·
   rw [if_neg c3] at H;have zbm : decide (0 ≤ Za) = false := decide_eq_false c3;clear c3;obtain rfl := Option.some.inj H;go_enter Tryz.func60, Tryz.ntmps60;go_wp2_with (first | ((with_reducible refine Yx (N := 1) rfl ?_); refine Y7 ?hg (N := 1) ?hd (cs := #[.int .i64 Zb, .int .i64 xy, .int .i64 vz, .int .i64 Zl, .int .i64 Za, .string Zh, .string Zf, .string Zi, .string Zk, .int .i64 yx]) (t := 44) ?hr ?_; (case hd => rfl); (case hg => rfl); (case hr => first | (go_simp; done) | (go_simp; rfl)); intro zdi hg w6 hbox hb; have n0_ := zf.mk (Zc (by repeat (first | (with_reducible first | exact HB.out | apply zh | apply zg | apply zk) | exact HB.out)) hb); have n1_ := zf.mk (hbox); have n2_ := zf.mk ((by rw [hg]; exact (xn (by repeat (first | (with_reducible first | exact HB.out | apply zh | apply zg | apply zk) | exact HB.out))) : w.heap.size ≤ zdi)); have n3_ := zf.mk ((by rw [hg]; exact (xn (by repeat (first | (with_reducible first | exact HB.out | apply zh | apply zg | apply zk) | exact HB.out))) : w.heap.size ≤ zdi)); clear HB; have HB := n0_; have zdk := n1_; have znl := n2_; have zge := n3_; clear n0_ n1_ n2_ n3_; clear hb hbox hg; obtain ⟨zl6, zl7, hcz7_2, hcz7_3, hcz7_4, hcz7_5, hcz7_6, hcz7_7, hcz7_8, hcz7_9⟩ := Yi zdk.out; obtain ⟨zl8, zl9, hfz7_2, hfz7_3, hfz7_4, hfz7_5, hfz7_6, hfz7_7, hfz7_8, hfz7_9⟩ := zbk zdk.out))
   go_ret;exact ⟨by first | rfl | (simp [Zd, Ze] <;> rfl) | (simp [*, Zd, Ze] <;> rfl), by repeat (first | (with_reducible first | exact HB.out | apply zh | apply zg | apply zk | refine zi ?_ zge.out) | exact HB.out)⟩
 ·
  rw [if_neg c2] at H;have ze7 : (Zb == 1) = false := beq_eq_false_iff_ne.mpr c2;have zhk : (Zb != 1) = true := bne_iff_ne.mpr c2;by_cases c8 : Zb = 2
  ·
   rw [if_pos c8] at H;have zjl : (Zb == 2) = true := beq_iff_eq.mpr c8;have c8b1 : (Zb != 2) = false := bne_eq_false_iff_eq.mpr c8;clear c8;by_cases c9 : Za = 0
   ·
    rw [if_pos c9] at H;have c9b0 : (Za == 0) = true := beq_iff_eq.mpr c9;have c9b1 : (Za != 0) = false := bne_eq_false_iff_eq.mpr c9;clear c9;obtain rfl := Option.some.inj H;go_enter Tryz.func60, Tryz.ntmps60;go_wp2_with (first | ((with_reducible refine Yx (N := 1) rfl ?_); refine Y7 ?hg (N := 1) ?hd (cs := #[.int .i64 Zb, .int .i64 xy, .int .i64 vz, .int .i64 Zl, .int .i64 Za, .string Zh, .string Zf, .string Zi, .string Zk, .int .i64 yx]) (t := 44) ?hr ?_; (case hd => rfl); (case hg => rfl); (case hr => first | (go_simp; done) | (go_simp; rfl)); intro zdi hg w10 hbox hb; have n0_ := zf.mk (Zc (by repeat (first | (with_reducible first | exact HB.out | apply zh | apply zg | apply zk) | exact HB.out)) hb); have n1_ := zf.mk (hbox); have n2_ := zf.mk ((by rw [hg]; exact (xn (by repeat (first | (with_reducible first | exact HB.out | apply zh | apply zg | apply zk) | exact HB.out))) : w.heap.size ≤ zdi)); have n3_ := zf.mk ((by rw [hg]; exact (xn (by repeat (first | (with_reducible first | exact HB.out | apply zh | apply zg | apply zk) | exact HB.out))) : w.heap.size ≤ zdi)); clear HB; have HB := n0_; have zdk := n1_; have znl := n2_; have zge := n3_; clear n0_ n1_ n2_ n3_; clear hb hbox hg; obtain ⟨zoq, zor, zsk, zsl, zsm, zsn, zso, zsp, zsq, zsr⟩ := Yi zdk.out; obtain ⟨zos, zot, zss, zst, zsu, zsv, zsw, zsx, zsy, zsz⟩ := zbk zdk.out))
    go_ret;exact ⟨by first | rfl | (simp [Zd, Ze] <;> rfl) | (simp [*, Zd, Ze] <;> rfl), by repeat (first | (with_reducible first | exact HB.out | apply zh | apply zg | apply zk | refine zi ?_ zge.out) | exact HB.out)⟩
   ·
    rw [if_neg c9] at H;have c9b0 : (Za == 0) = false := beq_eq_false_iff_ne.mpr c9;have c9b1 : (Za != 0) = true := bne_iff_ne.mpr c9;obtain rfl := Option.some.inj H;go_enter Tryz.func60, Tryz.ntmps60;go_wp2_with (first | ((with_reducible refine Yx (N := 1) rfl ?_); refine Y7 ?hg (N := 1) ?hd (cs := #[.int .i64 Zb, .int .i64 xy, .int .i64 vz, .int .i64 Zl, .int .i64 Za, .string Zh, .string Zf, .string Zi, .string Zk, .int .i64 yx]) (t := 44) ?hr ?_; (case hd => rfl); (case hg => rfl); (case hr => first | (go_simp; done) | (go_simp; rfl)); intro zdi hg w12 hbox hb; have n0_ := zf.mk (Zc (by repeat (first | (with_reducible first | exact HB.out | apply zh | apply zg | apply zk) | exact HB.out)) hb); have n1_ := zf.mk (hbox); have n2_ := zf.mk ((by rw [hg]; exact (xn (by repeat (first | (with_reducible first | exact HB.out | apply zh | apply zg | apply zk) | exact HB.out))) : w.heap.size ≤ zdi)); have n3_ := zf.mk ((by rw [hg]; exact (xn (by repeat (first | (with_reducible first | exact HB.out | apply zh | apply zg | apply zk) | exact HB.out))) : w.heap.size ≤ zdi)); clear HB; have HB := n0_; have zdk := n1_; have znl := n2_; have zge := n3_; clear n0_ n1_ n2_ n3_; clear hb hbox hg; obtain ⟨hcz13_0, hcz13_1, hcz13_2, hcz13_3, hcz13_4, hcz13_5, hcz13_6, hcz13_7, hcz13_8, hcz13_9⟩ := Yi zdk.out; obtain ⟨hfz13_0, hfz13_1, hfz13_2, hfz13_3, hfz13_4, hfz13_5, hfz13_6, hfz13_7, hfz13_8, hfz13_9⟩ := zbk zdk.out))
    go_ret;exact ⟨by first | rfl | (simp [Zd, Ze] <;> rfl) | (simp [*, Zd, Ze] <;> rfl), by repeat (first | (with_reducible first | exact HB.out | apply zh | apply zg | apply zk | refine zi ?_ zge.out) | exact HB.out)⟩
  ·
   rw [if_neg c8] at H;have zjl : (Zb == 2) = false := beq_eq_false_iff_ne.mpr c8;have c8b1 : (Zb != 2) = true := bne_iff_ne.mpr c8;by_cases c14 : Zb = 8
   ·
    rw [if_pos c14] at H;have c14b0 : (Zb == 8) = true := beq_iff_eq.mpr c14;have c14b1 : (Zb != 8) = false := bne_eq_false_iff_eq.mpr c14;clear c14;by_cases c15 : Za ≥ 0
    ·
     rw [if_pos c15] at H;have znk : decide (0 ≤ Za) = true := decide_eq_true c15;clear c15;obtain rfl := Option.some.inj H;go_enter Tryz.func60, Tryz.ntmps60;go_wp2_with (first | ((with_reducible refine Yx (N := 1) rfl ?_); refine Y7 ?hg (N := 1) ?hd (cs := #[.int .i64 Zb, .int .i64 xy, .int .i64 vz, .int .i64 Zl, .int .i64 Za, .string Zh, .string Zf, .string Zi, .string Zk, .int .i64 yx]) (t := 44) ?hr ?_; (case hd => rfl); (case hg => rfl); (case hr => first | (go_simp; done) | (go_simp; rfl)); intro zdi hg w16 hbox hb; have n0_ := zf.mk (Zc (by repeat (first | (with_reducible first | exact HB.out | apply zh | apply zg | apply zk) | exact HB.out)) hb); have n1_ := zf.mk (hbox); have n2_ := zf.mk ((by rw [hg]; exact (xn (by repeat (first | (with_reducible first | exact HB.out | apply zh | apply zg | apply zk) | exact HB.out))) : w.heap.size ≤ zdi)); have n3_ := zf.mk ((by rw [hg]; exact (xn (by repeat (first | (with_reducible first | exact HB.out | apply zh | apply zg | apply zk) | exact HB.out))) : w.heap.size ≤ zdi)); clear HB; have HB := n0_; have zdk := n1_; have znl := n2_; have zge := n3_; clear n0_ n1_ n2_ n3_; clear hb hbox hg; obtain ⟨hcz17_0, hcz17_1, hcz17_2, hcz17_3, hcz17_4, hcz17_5, hcz17_6, hcz17_7, hcz17_8, hcz17_9⟩ := Yi zdk.out; obtain ⟨hfz17_0, hfz17_1, hfz17_2, hfz17_3, hfz17_4, hfz17_5, hfz17_6, hfz17_7, hfz17_8, hfz17_9⟩ := zbk zdk.out))
     go_ret;exact ⟨by first | rfl | (simp [Zd, Ze] <;> rfl) | (simp [*, Zd, Ze] <;> rfl), by repeat (first | (with_reducible first | exact HB.out | apply zh | apply zg | apply zk | refine zi ?_ zge.out) | exact HB.out)⟩
    ·
     rw [if_neg c15] at H;have znk : decide (0 ≤ Za) = false := decide_eq_false c15;clear c15;obtain rfl := Option.some.inj H;go_enter Tryz.func60, Tryz.ntmps60;go_wp2_with (first | ((with_reducible refine Yx (N := 1) rfl ?_); refine Y7 ?hg (N := 1) ?hd (cs := #[.int .i64 Zb, .int .i64 xy, .int .i64 vz, .int .i64 Zl, .int .i64 Za, .string Zh, .string Zf, .string Zi, .string Zk, .int .i64 yx]) (t := 44) ?hr ?_; (case hd => rfl); (case hg => rfl); (case hr => first | (go_simp; done) | (go_simp; rfl)); intro zdi hg w18 hbox hb; have n0_ := zf.mk (Zc (by repeat (first | (with_reducible first | exact HB.out | apply zh | apply zg | apply zk) | exact HB.out)) hb); have n1_ := zf.mk (hbox); have n2_ := zf.mk ((by rw [hg]; exact (xn (by repeat (first | (with_reducible first | exact HB.out | apply zh | apply zg | apply zk) | exact HB.out))) : w.heap.size ≤ zdi)); have n3_ := zf.mk ((by rw [hg]; exact (xn (by repeat (first | (with_reducible first | exact HB.out | apply zh | apply zg | apply zk) | exact HB.out))) : w.heap.size ≤ zdi)); clear HB; have HB := n0_; have zdk := n1_; have znl := n2_; have zge := n3_; clear n0_ n1_ n2_ n3_; clear hb hbox hg; obtain ⟨hcz19_0, hcz19_1, hcz19_2, hcz19_3, hcz19_4, hcz19_5, hcz19_6, hcz19_7, hcz19_8, hcz19_9⟩ := Yi zdk.out; obtain ⟨hfz19_0, hfz19_1, hfz19_2, hfz19_3, hfz19_4, hfz19_5, hfz19_6, hfz19_7, hfz19_8, hfz19_9⟩ := zbk zdk.out))
     go_ret;exact ⟨by first | rfl | (simp [Zd, Ze] <;> rfl) | (simp [*, Zd, Ze] <;> rfl), by repeat (first | (with_reducible first | exact HB.out | apply zh | apply zg | apply zk | refine zi ?_ zge.out) | exact HB.out)⟩
   ·
    rw [if_neg c14] at H;have c14b0 : (Zb == 8) = false := beq_eq_false_iff_ne.mpr c14;have c14b1 : (Zb != 8) = true := bne_iff_ne.mpr c14;obtain rfl := Option.some.inj H;go_enter Tryz.func60, Tryz.ntmps60;go_wp2_with (first | ((with_reducible refine Yx (N := 1) rfl ?_); refine Y7 ?hg (N := 1) ?hd (cs := #[.int .i64 Zb, .int .i64 xy, .int .i64 vz, .int .i64 Zl, .int .i64 Za, .string Zh, .string Zf, .string Zi, .string Zk, .int .i64 yx]) (t := 44) ?hr ?_; (case hd => rfl); (case hg => rfl); (case hr => first | (go_simp; done) | (go_simp; rfl)); intro zdi hg w20 hbox hb; have n0_ := zf.mk (Zc (by repeat (first | (with_reducible first | exact HB.out | apply zh | apply zg | apply zk) | exact HB.out)) hb); have n1_ := zf.mk (hbox); have n2_ := zf.mk ((by rw [hg]; exact (xn (by repeat (first | (with_reducible first | exact HB.out | apply zh | apply zg | apply zk) | exact HB.out))) : w.heap.size ≤ zdi)); have n3_ := zf.mk ((by rw [hg]; exact (xn (by repeat (first | (with_reducible first | exact HB.out | apply zh | apply zg | apply zk) | exact HB.out))) : w.heap.size ≤ zdi)); clear HB; have HB := n0_; have zdk := n1_; have znl := n2_; have zge := n3_; clear n0_ n1_ n2_ n3_; clear hb hbox hg; obtain ⟨hcz21_0, hcz21_1, hcz21_2, hcz21_3, hcz21_4, hcz21_5, hcz21_6, hcz21_7, hcz21_8, hcz21_9⟩ := Yi zdk.out; obtain ⟨hfz21_0, hfz21_1, hfz21_2, hfz21_3, hfz21_4, hfz21_5, hfz21_6, hfz21_7, hfz21_8, hfz21_9⟩ := zbk zdk.out))
    go_ret;exact ⟨by first | rfl | (simp [Zd, Ze] <;> rfl) | (simp [*, Zd, Ze] <;> rfl), by repeat (first | (with_reducible first | exact HB.out | apply zh | apply zg | apply zk | refine zi ?_ zge.out) | exact HB.out)⟩
mutual
def Zm.l0 : Nat → List (S44) → Int → Int → Int → Option (Int)
 | 0, _, _, _, _ => none
 | k + 1, x0, x1, x5, x6 => if x6 > 0 then (if 0 ≤ x1 then (if x1 < (x0.length : Int) then (if x6 = 2 then (Zm.j1 k x0 x1 x5 x6 ((zl x0 x1).f2)) else (if x6 = 3 then (Zm.j1 k x0 x1 x5 x6 ((zl x0 x1).f3)) else (Zm.j1 k x0 x1 x5 x6 ((zl x0 x1).f1)))) else (none)) else (none)) else (some x5)
def Zm.j1 : Nat → List (S44) → Int → Int → Int → Int → Option (Int)
 | 0, _, _, _, _, _ => none
 | k + 1, x0, x1, x5, x6, x7 => if x7 = (wrap64 (x5 - 1)) then (Zm.j2 k x0 x1 x6 x7 (decide (x5 < 1))) else (Zm.j2 k x0 x1 x6 x7 true)
def Zm.j2 : Nat → List (S44) → Int → Int → Int → Bool → Option (Int)
 | 0, _, _, _, _, _ => none
 | k + 1, x0, x1, x6, x7, x46 => if x46 = true then (some (-1)) else ((Zm.f k x0 x7).bind fun t244 => (if t244 < 0 then (some (-1)) else (Zm.l0 k x0 x1 t244 (wrap64 (x6 - 1)))))
def Zm.f : Nat → List (S44) → Int → Option (Int)
 | 0, _, _ => none
 | k + 1, l0, a1 => if 0 ≤ a1 then (if a1 < (l0.length : Int) then ((zt.f k ((zl l0 a1).f0)).bind fun t240 => (Zm.l0 k l0 a1 a1 t240)) else (none)) else (none)
end
set_option maxHeartbeats 8000000 in
set_option maxRecDepth 100000 in
theorem Zm.calls (k : Nat) : ∀ (A0 : Option Addr) (c0 : Nat) (l0 : List (S44)) (a1 : Int) (r : Int) (w : World) (hr0 : Kd.C k44 w A0 l0.length l0) (hc0 : l0.length ≤ c0) (h : Zm.f k l0 a1 = some r),
  Calls Tryz.prog 61 #[.slice A0 l0.length c0, .int .i64 a1] w fun e w' => e = .returned (.int .i64 r) ∧ xm w w' := by
 induction k using Nat.strongRecOn with
 | _ k ih =>
 intro A0 c0 l0 a1 r w hr0 hc0 h;cases k with
 | zero => exact absurd h (by simp [Zm.f])
 | succ k =>
 simp only [Zm.f] at h;have HR0 := zf.mk hr0;have HC0 := zf.mk hc0;clear hr0 hc0;have H : (if 0 ≤ a1 then (if a1 < (l0.length : Int) then ((zt.f k ((zl l0 a1).f0)).bind fun t240 => (Zm.l0 k l0 a1 a1 t240)) else (none)) else (none)) = some r := h;clear h;by_cases c3 : 0 ≤ a1
 ·
  rw [if_pos c3] at H;have zbm : decide (0 ≤ a1) = true := decide_eq_true c3;clear c3;by_cases c4 : a1 < (l0.length : Int)
  ·
   rw [if_pos c4] at H;have zbn : decide (a1 < (l0.length : Int)) = true := decide_eq_true c4;clear c4;replace H := Option.bind_eq_some_iff.mp H;obtain ⟨t240, A50, H⟩ := H;replace H : (Zm.l0 k l0 a1 a1 t240) = some r := H;have A5 := zf.mk A50;clear A50;have H' := zf.mk H;clear H;have p239 : 0 ≤ (a1 : Int) := of_decide_eq_true (by first | (with_reducible assumption) | assumption);have q239 : a1 < (l0.length : Int) := of_decide_eq_true (by first | (with_reducible assumption) | assumption);obtain ⟨zqv, e239, zo7, zo8, zo9, zpa, zpb, zpc, zpd, zpe, zpf, zpg⟩ := zbr HR0.out a1 p239 q239;cases e239;replace p239 := eq_true p239;replace q239 := eq_true q239;go_enter Tryz.func61, Tryz.ntmps61;go_wp2_with (first | ((with_reducible refine Zw (f := 77) rfl ?_); refine Xc (some 14) rfl rfl Tryz.func77 (by kernel_rfl) rfl #[.int .i64 ((zl l0 a1).f0)] rfl (by (try simp only [List.map_toArray, List.map_cons, List.map_nil]); first | done | rfl | (simp only [List.length_drop, List.length_take]; rfl)) ?_; (with_reducible refine (zt.calls k ((zl l0 a1).f0) t240 _ A5.out).mono ?_); rintro e w' ⟨rfl, ⟨nd, rfl⟩⟩; refine ⟨_, rfl, ?_⟩))
   go_loopg [5, 6] k (fun kq v5 v6 w' => ∃ (x5_1 : Int) (x6_1 : Int), v5 = .int .i64 x5_1 ∧ v6 = .int .i64 x6_1 ∧ zf (Zm.l0 kq l0 a1 x5_1 x6_1 = some r) ∧ zf (kq ≤ k) ∧ xm w w')
   case atStart => exact ⟨(a1), (t240), (by first | rfl | (simp; done) | (simp [*]; done)), (by first | rfl | (simp; done) | (simp [*]; done)), H', ⟨Nat.le_refl _⟩, by repeat (first | exact xm.refl _ | apply xm.step)⟩
   case round =>
    clear H';try clear p2
    try clear q2
    try clear hx2
    try clear c3
    try clear zbm
    try clear c4
    try clear zbn
    try clear zo7
    try clear zo8
    try clear zo9
    try clear zpa
    try clear zpb
    try clear zpc
    try clear zpd
    try clear zpe
    try clear zpf
    try clear zpg
    try clear p239
    try clear q239
    obtain ⟨x5_1, x6_1, rfl, rfl, HA, HK1, ⟨m1, rfl⟩⟩ := hrel;cases gk with
    | zero => exact absurd HA.out (by simp [Zm.l0])
    | succ k1 =>
     have H := HA.out;clear HA;simp only [Zm.l0] at H;by_cases c6 : x6_1 > 0
     ·
      rw [if_pos c6] at H;have zic : decide (0 < x6_1) = true := decide_eq_true c6;clear c6;by_cases c7 : 0 ≤ a1
      ·
       rw [if_pos c7] at H;have zdt : decide (0 ≤ a1) = true := decide_eq_true c7;clear c7;by_cases c8 : a1 < (l0.length : Int)
       ·
        rw [if_pos c8] at H;have zjl : decide (a1 < (l0.length : Int)) = true := decide_eq_true c8;clear c8;have HC9 := zf.mk H;clear H;have p241 : 0 ≤ (a1 : Int) := of_decide_eq_true (by first | (with_reducible assumption) | assumption);have q241 : a1 < (l0.length : Int) := of_decide_eq_true (by first | (with_reducible assumption) | assumption);obtain ⟨ad241, e241, zs3, zs4, zs5, zs6, zs7, zs8, zs9, zta, ztb, ztc⟩ := zbr HR0.out a1 p241 q241;obtain rfl : zqv = ad241 := (by injection e241);replace p241 := eq_true p241;replace q241 := eq_true q241;go_upto_block 2 with (fail)
        go_cut [7] (fun v7 wc => ∃ (kq : Nat) (x7_8 : Int), v7 = .int .i64 x7_8 ∧ zf (Zm.j1 kq l0 a1 x5_1 x6_1 x7_8 = some r) ∧ zf (kq ≤ k1) ∧ xm w wc)
        case first =>
         have H := HC9.out;clear HC9;by_cases c10 : x6_1 = 2
         ·
          rw [if_pos c10] at H;have zbo : (x6_1 == 2) = true := beq_iff_eq.mpr c10;have zf9 : (x6_1 != 2) = false := bne_eq_false_iff_eq.mpr c10;clear c10
          (first | rw [zbo] | (simp only [Yy, Y6]; rw [zbo]) | skip)
          have H' := zf.mk H;clear H;have p242 : 0 ≤ (a1 : Int) := of_decide_eq_true (by first | (with_reducible assumption) | assumption);have q242 : a1 < (l0.length : Int) := of_decide_eq_true (by first | (with_reducible assumption) | assumption);obtain ⟨ad242, e242, ztd, zte, ztf, ztg, zth, zti, ztj, ztk, ztl, ztm⟩ := zbr HR0.out a1 p242 q242;obtain rfl : zqv = ad242 := (by injection e242);replace p242 := eq_true p242;replace q242 := eq_true q242;go_wp2
          go_meet
          case rel => exact ⟨_, ((zl l0 a1).f2), (by first | rfl | (simp; done) | (simp [*]; done)), H', ⟨by have := HK1.out; first | omega | exact Nat.le_refl _⟩, by repeat (first | exact xm.refl _ | apply xm.step)⟩
         ·
          rw [if_neg c10] at H;have zbo : (x6_1 == 2) = false := beq_eq_false_iff_ne.mpr c10;have zf9 : (x6_1 != 2) = true := bne_iff_ne.mpr c10
          (first | rw [zbo] | (simp only [Yy, Y6]; rw [zbo]) | skip)
          by_cases c11 : x6_1 = 3
          ·
           rw [if_pos c11] at H;have zgt : (x6_1 == 3) = true := beq_iff_eq.mpr c11;have zib : (x6_1 != 3) = false := bne_eq_false_iff_eq.mpr c11;clear c11;have H' := zf.mk H;clear H;have p243 : 0 ≤ (a1 : Int) := of_decide_eq_true (by first | (with_reducible assumption) | assumption);have q243 : a1 < (l0.length : Int) := of_decide_eq_true (by first | (with_reducible assumption) | assumption);obtain ⟨ad243, e243, ztn, zto, ztp, ztq, ztr, zts, ztt, ztu, ztv, ztw⟩ := zbr HR0.out a1 p243 q243;obtain rfl : zqv = ad243 := (by injection e243);replace p243 := eq_true p243;replace q243 := eq_true q243;go_wp2
           go_meet
           case rel => exact ⟨_, ((zl l0 a1).f3), (by first | rfl | (simp; done) | (simp [*]; done)), H', ⟨by have := HK1.out; first | omega | exact Nat.le_refl _⟩, by repeat (first | exact xm.refl _ | apply xm.step)⟩
          ·
           rw [if_neg c11] at H;have zgt : (x6_1 == 3) = false := beq_eq_false_iff_ne.mpr c11;have zib : (x6_1 != 3) = true := bne_iff_ne.mpr c11;have H' := zf.mk H;clear H;go_wp2
           go_meet
           case rel => exact ⟨_, ((zl l0 a1).f1), (by first | rfl | (simp; done) | (simp [*]; done)), H', ⟨by have := HK1.out; first | omega | exact Nat.le_refl _⟩, by repeat (first | exact xm.refl _ | apply xm.step)⟩
        case rest =>
         clear HC9;try clear c1
         try clear p2
         try clear q2
         try clear hx2
         try clear c3
         try clear zbm
         try clear c4
         try clear zbn
         try clear c6
         try clear zic
         try clear c7
         try clear zdt
         try clear c8
         try clear zjl
         try clear c10
         try clear zbo
         try clear zf9
         try clear c11
         try clear zgt
         try clear zib
         try clear zo7
         try clear zo8
         try clear zo9
         try clear zpa
         try clear zpb
         try clear zpc
         try clear zpd
         try clear zpe
         try clear zpf
         try clear zpg
         try clear zs3
         try clear zs4
         try clear zs5
         try clear zs6
         try clear zs7
         try clear zs8
         try clear zs9
         try clear zta
         try clear ztb
         try clear ztc
         try clear ztd
         try clear zte
         try clear ztf
         try clear ztg
         try clear zth
         try clear zti
         try clear ztj
         try clear ztk
         try clear ztl
         try clear ztm
         try clear ztn
         try clear zto
         try clear ztp
         try clear ztq
         try clear ztr
         try clear zts
         try clear ztt
         try clear ztu
         try clear ztv
         try clear ztw
         try clear p2
         try clear p239
         try clear p241
         try clear p242
         try clear p243
         try clear q2
         try clear q239
         try clear q241
         try clear q242
         try clear q243
         obtain ⟨kq, x7_8, rfl, HA, HJ8, ⟨mc8, rfl⟩⟩ := hcut;cases kq with
         | zero => exact absurd HA.out (by simp [Zm.j1])
         | succ kj8 =>
          have H := HA.out;clear HA;simp only [Zm.j1] at H;have HC12 := zf.mk H;clear H;go_upto_region 11 with (fail)
          go_cut [46] (fun v46 wc => ∃ (kq : Nat) (x46_11 : Bool), v46 = .bool x46_11 ∧ zf (Zm.j2 kq l0 a1 x6_1 x7_8 x46_11 = some r) ∧ zf (kq ≤ kj8) ∧ xm w wc)
          case first =>
           have H := HC12.out;clear HC12;by_cases c13 : x7_8 = (wrap64 (x5_1 - 1))
           ·
            rw [if_pos c13] at H;have zdp : (x7_8 == (wrap64 (x5_1 - 1))) = true := beq_iff_eq.mpr c13;have zls : (x7_8 != (wrap64 (x5_1 - 1))) = false := bne_eq_false_iff_eq.mpr c13;clear c13
            (first | rw [zdp] | (simp only [Yy, Y6]; rw [zdp]) | skip)
            have H' := zf.mk H;clear H;go_wp2
            go_meet
            case rel => exact ⟨_, (decide (x5_1 < 1)), (by first | rfl | (simp; done) | (simp [*]; done)), H', ⟨by have := HK1.out; have := HJ8.out; first | omega | exact Nat.le_refl _⟩, by repeat (first | exact xm.refl _ | apply xm.step)⟩
           ·
            rw [if_neg c13] at H;have zdp : (x7_8 == (wrap64 (x5_1 - 1))) = false := beq_eq_false_iff_ne.mpr c13;have zls : (x7_8 != (wrap64 (x5_1 - 1))) = true := bne_iff_ne.mpr c13
            (first | rw [zdp] | (simp only [Yy, Y6]; rw [zdp]) | skip)
            have H' := zf.mk H;clear H;go_wp2
            go_meet
            case rel => exact ⟨_, (true), (by first | rfl | (simp; done) | (simp [*]; done)), H', ⟨by have := HK1.out; have := HJ8.out; first | omega | exact Nat.le_refl _⟩, by repeat (first | exact xm.refl _ | apply xm.step)⟩
          case rest =>
           clear HC12;try clear c1
           try clear p2
           try clear q2
           try clear hx2
           try clear c3
           try clear zbm
           try clear c4
           try clear zbn
           try clear c6
           try clear zic
           try clear p6
           try clear c7
           try clear zdt
           try clear c8
           try clear zjl
           try clear c10
           try clear zbo
           try clear zf9
           try clear c11
           try clear zgt
           try clear zib
           try clear c13
           try clear zdp
           try clear zls
           try clear zo7
           try clear zo8
           try clear zo9
           try clear zpa
           try clear zpb
           try clear zpc
           try clear zpd
           try clear zpe
           try clear zpf
           try clear zpg
           try clear zs3
           try clear zs4
           try clear zs5
           try clear zs6
           try clear zs7
           try clear zs8
           try clear zs9
           try clear zta
           try clear ztb
           try clear ztc
           try clear ztd
           try clear zte
           try clear ztf
           try clear ztg
           try clear zth
           try clear zti
           try clear ztj
           try clear ztk
           try clear ztl
           try clear ztm
           try clear ztn
           try clear zto
           try clear ztp
           try clear ztq
           try clear ztr
           try clear zts
           try clear ztt
           try clear ztu
           try clear ztv
           try clear ztw
           try clear p2
           try clear p239
           try clear p241
           try clear p242
           try clear p243
           try clear q2
           try clear q239
           try clear q241
           try clear q242
           try clear q243
           obtain ⟨kq, x46_11, rfl, HA, HJ11, ⟨mc11, rfl⟩⟩ := hcut;cases kq with
           | zero => exact absurd HA.out (by simp [Zm.j2])
           | succ kj11 =>
            have H := HA.out;clear HA;simp only [Zm.j2] at H;by_cases c14 : x46_11 = true
            ·
             subst c14;have H1 : (some (-1)) = some r := by rw [if_pos rfl] at H; exact H
             clear H;have H := H1;clear H1;obtain rfl := Option.some.inj H;go_wp2
             go_ret;exact ⟨by first | rfl | (simp; done) | (simp [*]; done), by repeat (first | exact xm.refl _ | apply xm.step)⟩
            ·
             replace c14 := Bool.eq_false_iff.mpr c14;subst c14;have H1 : ((Zm.f kj11 l0 x7_8).bind fun t244 => (if t244 < 0 then (some (-1)) else (Zm.l0 kj11 l0 a1 t244 (wrap64 (x6_1 - 1))))) = some r := by rw [if_neg (show ¬ (false = true) by decide)] at H; exact H
             clear H;have H := H1;clear H1;replace H := Option.bind_eq_some_iff.mp H;obtain ⟨t244, A150, H⟩ := H;replace H : (if t244 < 0 then (some (-1)) else (Zm.l0 kj11 l0 a1 t244 (wrap64 (x6_1 - 1)))) = some r := H;have A15 := zf.mk A150;clear A150;by_cases c16 : t244 < 0
             ·
              rw [if_pos c16] at H;have c16b0 : decide (t244 < 0) = true := decide_eq_true c16;clear c16;obtain rfl := Option.some.inj H;go_wp2_with (first | ((with_reducible refine Zw (f := 61) rfl ?_); refine Xc (some 49) rfl rfl Tryz.func61 (by kernel_rfl) rfl #[.slice (some zqv) l0.length c0, .int .i64 x7_8] rfl (by (try simp only [List.map_toArray, List.map_cons, List.map_nil]); first | done | rfl | (simp only [List.length_drop, List.length_take]; rfl)) ?_; (with_reducible refine (ih kj11 (by have := HK1.out; have := HJ8.out; have := HJ11.out; omega) _ _ l0 x7_8 t244 _ ?side1 ?side2 A15.out).mono ?_); (case side1 => repeat (first | exact HR0.out | (with_reducible refine Kd.Yg ?_ _) | (with_reducible refine Kd.Ym ?_ _) | (with_reducible refine Kd.Yv ?_))); (case side2 => exact HC0.out); rintro e w' ⟨rfl, ⟨nd, rfl⟩⟩; refine ⟨_, rfl, ?_⟩))
              go_ret;exact ⟨by first | rfl | (simp; done) | (simp [*]; done), by repeat (first | exact xm.refl _ | apply xm.step)⟩
             ·
              rw [if_neg c16] at H;have c16b0 : decide (t244 < 0) = false := decide_eq_false c16;clear c16;have H' := zf.mk H;clear H;go_wp2_with (first | ((with_reducible refine Zw (f := 61) rfl ?_); refine Xc (some 49) rfl rfl Tryz.func61 (by kernel_rfl) rfl #[.slice (some zqv) l0.length c0, .int .i64 x7_8] rfl (by (try simp only [List.map_toArray, List.map_cons, List.map_nil]); first | done | rfl | (simp only [List.length_drop, List.length_take]; rfl)) ?_; (with_reducible refine (ih kj11 (by have := HK1.out; have := HJ8.out; have := HJ11.out; omega) _ _ l0 x7_8 t244 _ ?side1 ?side2 A15.out).mono ?_); (case side1 => repeat (first | exact HR0.out | (with_reducible refine Kd.Yg ?_ _) | (with_reducible refine Kd.Ym ?_ _) | (with_reducible refine Kd.Yv ?_))); (case side2 => exact HC0.out); rintro e w' ⟨rfl, ⟨nd, rfl⟩⟩; refine ⟨_, rfl, ?_⟩))
              go_roundg kj11
              case measure => have := HK1.out; have := HJ8.out; have := HJ11.out; omega
              case rel => exact ⟨(t244), (wrap64 (x6_1 - 1)), (by first | rfl | (simp; done) | (simp [*]; done)), (by first | rfl | (simp; done) | (simp [*]; done)), H', ⟨by have := HK1.out; have := HJ8.out; have := HJ11.out; omega⟩, by repeat (first | exact xm.refl _ | apply xm.step)⟩
       ·
        rw [if_neg c8] at H;exact absurd H (by simp)
      ·
       rw [if_neg c7] at H;exact absurd H (by simp)
     ·
      rw [if_neg c6] at H;have zic : decide (0 < x6_1) = false := decide_eq_false c6;clear c6;obtain rfl := Option.some.inj H;go_wp2
      go_ret;exact ⟨by first | rfl | (simp; done) | (simp [*]; done), by repeat (first | exact xm.refl _ | apply xm.step)⟩
  ·
   rw [if_neg c4] at H;exact absurd H (by simp)
 ·
  rw [if_neg c3] at H;exact absurd H (by simp)
end Go.Proofs.YtfcjpkkglffnmaaGreatDoor.H
