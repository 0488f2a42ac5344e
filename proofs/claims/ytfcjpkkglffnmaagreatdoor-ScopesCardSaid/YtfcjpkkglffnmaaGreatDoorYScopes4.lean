/- Several texts in one: contracts of functions of the program, and what they lean on. In part written by a program of this session over the kit's print, in part by hand. -/
import Derived.Test.YtfcjpkkglffnmaaGreatDoorYScopes2
import Derived.Test.YtfcjpkkglffnmaaGreatDoorYScopes3
import Derived.Maps.OwnSet
import Derived.Lib.SliceRun
import Derived.ChangeAlike
import Derived.RegionTactic
import Derived.BigQuiet
import Derived.Deep.QuietTactic
namespace Go.Proofs.YtfcjpkkglffnmaaGreatDoor.H
open Go.RowKit Go.Proofs.YtfcjpkkglffnmaaGreatDoorW.PrintWords Go.Proofs.YtfcjpkkglffnmaaGreatDoorW.PrintLast Go.Proofs.YtfcjpkkglffnmaaGreatDoorW.PrintMore
attribute [local go_sem] Vz V3 za0 za1 Vd Ve V4 V5
set_option linter.unusedVariables false
set_option linter.unusedSimpArgs false
def zb0.f (k : Nat) (vk : List (S42)) (vw : List (S44)) : Option (Bool) := (X4.f k vk).bind fun t203 => (if t203 = true then ((Yb.f k vw true).bind fun t204 => (some t204)) else (some false))
theorem zb0.mono : ∀ a0 a1 k, LeO (zb0.f k a0 a1) (zb0.f (k + 1) a0 a1) := by
 intro a0 a1 k;unfold zb0.f;repeat' first
   | (with_reducible exact X4.mono _ _)
   | (with_reducible exact Yb.mono _ _ _)
   | (with_reducible exact LeO.refl _)
   | (with_reducible exact LeO.none _)
   | (with_reducible refine LeO.ite ?_ ?_)
   | (with_reducible refine LeO.bind ?_ (fun _ => ?_))
   | exact X4.mono _ _
   | exact Yb.mono _ _ _
   | exact LeO.none _
   | refine LeO.ite ?_ ?_
   | refine LeO.bind ?_ (fun _ => ?_)
set_option maxHeartbeats 8000000 in
set_option maxRecDepth 100000 in
theorem zb0.calls (k : Nat) (Ye : Option Addr) (Yf : Nat) (vk : List (S42)) (Xb : Option Addr) (Yo : Nat) (vw : List (S44)) (r : Bool) (w : World) (hr0_0 : Kd.C k42 w Ye vk.length vk) (hc0_0 : vk.length ≤ Yf) (hr0_1 : Kd.C k44 w Xb vw.length vw) (hc0_1 : vw.length ≤ Yo) (h : zb0.f k vk vw = some r) :
  Calls Tryz.prog 16 #[.agg #[.slice Ye vk.length Yf, .slice Xb vw.length Yo]] w fun e w' => e = .returned (.bool r) ∧ Below w.heap.size w w' := by
 have hu25 := Tryz.underlying25;have zbt := zf.mk hr0_0;have zcd := zf.mk hc0_0;clear hr0_0 hc0_0;have zdv := zf.mk hr0_1;have zdw := zf.mk hc0_1;clear hr0_1 hc0_1;have HB := zf.mk (Below.refl w.heap.size w);have H : ((X4.f k vk).bind fun t203 => (if t203 = true then ((Yb.f k vw true).bind fun t204 => (some t204)) else (some false))) = some r := h;clear h;replace H := Option.bind_eq_some_iff.mp H;obtain ⟨t203, A20, H⟩ := H;replace H : (if t203 = true then ((Yb.f k vw true).bind fun t204 => (some t204)) else (some false)) = some r := H;have A2 := zf.mk A20;clear A20;by_cases c3 : t203 = true
 ·
  subst c3;have H1 : ((Yb.f k vw true).bind fun t204 => (some t204)) = some r := by rw [if_pos rfl] at H; exact H
  clear H;have H := H1;clear H1;replace H := Option.bind_eq_some_iff.mp H;obtain ⟨t204, A40, H⟩ := H;replace H : (some t204) = some r := H;have A4 := zf.mk A40;clear A40;obtain rfl := Option.some.inj H;go_enter Tryz.func16, Tryz.ntmps16;go_wp2_with (first | ((with_reducible refine Yx (N := 1) rfl ?_); refine Y7 ?hg (N := 1) ?hd (cs := #[.slice Ye vk.length Yf, .slice Xb vw.length Yo]) (t := 25) ?hr ?_; (case hd => rfl); (case hg => rfl); (case hr => first | (go_simp; done) | (go_simp; rfl)); intro zkq hg w5 hbox hb; have n0_ := zf.mk (Zc (by repeat (first | (with_reducible first | exact HB.out | apply zh | apply zg | apply zk) | exact HB.out)) hb); have n1_ := zf.mk (hbox); have n2_ := zf.mk ((by rw [hg]; exact (xn (by repeat (first | (with_reducible first | exact HB.out | apply zh | apply zg | apply zk) | exact HB.out))) : w.heap.size ≤ zkq)); have n3_ := zf.mk ((by rw [hg]; exact (xn (by repeat (first | (with_reducible first | exact HB.out | apply zh | apply zg | apply zk) | exact HB.out))) : w.heap.size ≤ zkq)); clear HB; have HB := n0_; have zdo := n1_; have GW202 := n2_; have znd := n3_; clear n0_ n1_ n2_ n3_; clear hb hbox hg; obtain ⟨zom, zon⟩ := Xt zdo.out; have zoo := zx zdo.out 0; have zop := zx zdo.out 1) | ((with_reducible refine Zw (f := 26) rfl ?_); refine Xc (some 5) rfl rfl Tryz.func26 (by kernel_rfl) rfl #[.slice Ye vk.length Yf] rfl (by (try simp only [List.map_toArray, List.map_cons, List.map_nil]); first | done | rfl | (simp only [List.length_drop, List.length_take]; rfl)) ?_; (with_reducible refine (X4.calls k _ _ vk true _ ?side1 ?side2 A2.out).mono ?_); (case side1 => repeat (first | exact (Kd.Zq zbt.out HB.out) | (with_reducible refine Kd.Yg ?_ _) | (with_reducible refine Kd.Ym ?_ _) | (with_reducible refine Kd.Yv ?_))); (case side2 => exact zcd.out); rintro e w7 ⟨rfl, hb⟩; refine ⟨_, rfl, ?_⟩; have n0_ := zf.mk (zy (g := zkq) (o := .cells #[.slice Ye vk.length Yf, .slice Xb vw.length Yo] 25 (0, 0)) (by (with_reducible repeat (first | refine zn ?_ _ | refine zq ?_ | refine zo ?_ _)); exact zdo.out) hb); have n1_ := zf.mk (Zc (by repeat (first | (with_reducible first | exact HB.out | apply zh | apply zg | apply zk | refine zi ?_ znd.out) | exact HB.out)) hb); clear zdo; clear HB; have zdo := n0_; have HB := n1_; clear n0_ n1_; (try clear hb); (try clear hb2); (try clear hk); (try clear hi); obtain ⟨hcz8_0, hcz8_1⟩ := Xt zdo.out; have hfz8_0 := zx zdo.out 0; have hfz8_1 := zx zdo.out 1) | (go_at_call 27; (with_reducible refine (Yb.calls k _ _ vw true t204 _ ?side1 ?side2 A4.out).mono ?_); (case side1 => repeat (first | exact (Kd.Zq zdv.out HB.out) | (with_reducible refine Kd.Yg ?_ _) | (with_reducible refine Kd.Ym ?_ _) | (with_reducible refine Kd.Yv ?_))); (case side2 => exact zdw.out); rintro e w9 ⟨rfl, hb⟩; have n0_ := zf.mk (zy (g := zkq) (o := .cells #[.slice Ye vk.length Yf, .slice Xb vw.length Yo] 25 (0, 0)) (by (with_reducible repeat (first | refine zn ?_ _ | refine zq ?_ | refine zo ?_ _)); exact zdo.out) hb); have n1_ := zf.mk (Zc (by repeat (first | (with_reducible first | exact HB.out | apply zh | apply zg | apply zk | refine zi ?_ znd.out) | exact HB.out)) hb); clear zdo; clear HB; have zdo := n0_; have HB := n1_; clear n0_ n1_; (try clear hb); (try clear hb2); (try clear hk); (try clear hi)))
  go_ret;exact ⟨by first | rfl | (simp [Zd, Ze] <;> rfl) | (simp [*, Zd, Ze] <;> rfl), by repeat (first | (with_reducible first | exact HB.out | apply zh | apply zg | apply zk | refine zi ?_ znd.out) | exact HB.out)⟩
 ·
  replace c3 := Bool.eq_false_iff.mpr c3;subst c3;have H1 : (some false) = some r := by rw [if_neg (show ¬ (false = true) by decide)] at H; exact H
  clear H;have H := H1;clear H1;obtain rfl := Option.some.inj H;go_enter Tryz.func16, Tryz.ntmps16;go_wp2_with (first | ((with_reducible refine Yx (N := 1) rfl ?_); refine Y7 ?hg (N := 1) ?hd (cs := #[.slice Ye vk.length Yf, .slice Xb vw.length Yo]) (t := 25) ?hr ?_; (case hd => rfl); (case hg => rfl); (case hr => first | (go_simp; done) | (go_simp; rfl)); intro zkq hg w10 hbox hb; have n0_ := zf.mk (Zc (by repeat (first | (with_reducible first | exact HB.out | apply zh | apply zg | apply zk) | exact HB.out)) hb); have n1_ := zf.mk (hbox); have n2_ := zf.mk ((by rw [hg]; exact (xn (by repeat (first | (with_reducible first | exact HB.out | apply zh | apply zg | apply zk) | exact HB.out))) : w.heap.size ≤ zkq)); have n3_ := zf.mk ((by rw [hg]; exact (xn (by repeat (first | (with_reducible first | exact HB.out | apply zh | apply zg | apply zk) | exact HB.out))) : w.heap.size ≤ zkq)); clear HB; have HB := n0_; have zdo := n1_; have GW202 := n2_; have znd := n3_; clear n0_ n1_ n2_ n3_; clear hb hbox hg; obtain ⟨zoq, zor⟩ := Xt zdo.out; have zos := zx zdo.out 0; have zot := zx zdo.out 1) | ((with_reducible refine Zw (f := 26) rfl ?_); refine Xc (some 5) rfl rfl Tryz.func26 (by kernel_rfl) rfl #[.slice Ye vk.length Yf] rfl (by (try simp only [List.map_toArray, List.map_cons, List.map_nil]); first | done | rfl | (simp only [List.length_drop, List.length_take]; rfl)) ?_; (with_reducible refine (X4.calls k _ _ vk false _ ?side1 ?side2 A2.out).mono ?_); (case side1 => repeat (first | exact (Kd.Zq zbt.out HB.out) | (with_reducible refine Kd.Yg ?_ _) | (with_reducible refine Kd.Ym ?_ _) | (with_reducible refine Kd.Yv ?_))); (case side2 => exact zcd.out); rintro e w12 ⟨rfl, hb⟩; refine ⟨_, rfl, ?_⟩; have n0_ := zf.mk (zy (g := zkq) (o := .cells #[.slice Ye vk.length Yf, .slice Xb vw.length Yo] 25 (0, 0)) (by (with_reducible repeat (first | refine zn ?_ _ | refine zq ?_ | refine zo ?_ _)); exact zdo.out) hb); have n1_ := zf.mk (Zc (by repeat (first | (with_reducible first | exact HB.out | apply zh | apply zg | apply zk | refine zi ?_ znd.out) | exact HB.out)) hb); clear zdo; clear HB; have zdo := n0_; have HB := n1_; clear n0_ n1_; (try clear hb); (try clear hb2); (try clear hk); (try clear hi)))
  go_ret;exact ⟨by first | rfl | (simp [Zd, Ze] <;> rfl) | (simp [*, Zd, Ze] <;> rfl), by repeat (first | (with_reducible first | exact HB.out | apply zh | apply zg | apply zk | refine zi ?_ znd.out) | exact HB.out)⟩
def mostN (kind : Int) : Int := if kind = 1 then 1073741823 else if kind = 2 then 1 else if kind = 8 then 5 else -1
theorem most_is (kind : Int) : zc3.f kind = some (mostN kind) := by
 unfold zc3.f mostN;repeat' split
 all_goals first | rfl | omega
def mayS (x : S44) (named : Bool) : Bool :=
  decide (0 ≤ x.f0) && (decide (x.f0 ≤ 10) && (decide (0 ≤ x.f9) && (decide (x.f9 ≤ 4096) &&
    ((decide (mostN x.f0 < 0) || (decide (0 ≤ x.f4) && decide (x.f4 ≤ mostN x.f0))) &&
      ((!named || (namesOf x).all (fun s => nm s.data.toList)) &&
        (let y := noKids (if named = true then noNames x else x)
         bareNode (if 0 ≤ mostN x.f0 ∨ (named = false ∧ (x.f0 = 0 ∨ x.f0 = 9 ∨ x.f0 = 10)) then noNum y else y)))))))
theorem goN_is (k : Nat) (hk : 40 ≤ k) : ∀ ss, goN k ss = some (ss.all fun s => nm s.data.toList)
 | [] => rfl
 | s :: ss => by
  rw [goN, zlj s k hk, Option.bind_some, goN_is k hk ss, List.all_cons];cases nm s.data.toList <;> simp
theorem may_is (x : S44) (named : Bool) (k : Nat) (hk : 40 ≤ k) : za3.f k x.f0 x.f1 x.f2 x.f3 x.f4 x.f5 x.f6 x.f7 x.f8 x.f9 named = some (mayS x named) := by
 have hx : (⟨x.f0, x.f1, x.f2, x.f3, x.f4, x.f5, x.f6, x.f7, x.f8, x.f9⟩ : S44) = x := rfl;unfold za3.f mayS;rw [hx, most_is, goN_is k hk];by_cases h1 : x.f0 < 0
 ·
  rw [if_pos h1]; simp [show ¬ 0 ≤ x.f0 by omega]
 ·
  rw [if_neg h1];by_cases h2 : x.f0 > 10
  ·
   rw [if_pos h2]; simp [show ¬ x.f0 ≤ 10 by omega]
  ·
   rw [if_neg h2];by_cases h3 : x.f9 < 0
   ·
    rw [if_pos h3]; simp [show ¬ 0 ≤ x.f9 by omega]
   ·
    rw [if_neg h3];by_cases h4 : x.f9 > 4096
    ·
     rw [if_pos h4]; simp [show ¬ x.f9 ≤ 4096 by omega]
    ·
     rw [if_neg h4];simp only [Option.bind_some, show 0 ≤ x.f0 by omega, show x.f0 ≤ 10 by omega, show 0 ≤ x.f9 by omega, show x.f9 ≤ 4096 by omega, decide_true, Bool.true_and];by_cases h5 : 0 ≤ mostN x.f0 ∧ (x.f4 < 0 ∨ mostN x.f0 < x.f4)
     ·
      rw [if_pos h5];have e : (decide (mostN x.f0 < 0) || (decide (0 ≤ x.f4) && decide (x.f4 ≤ mostN x.f0))) = false := by
       rw [Bool.or_eq_false_iff];refine ⟨by simp; omega, ?_⟩;rw [Bool.and_eq_false_iff];rcases h5.2 with h | h
       ·
        left; simp; omega
       ·
        right; simp; omega
      rw [e, Bool.false_and]
     ·
      rw [if_neg h5];have e : (decide (mostN x.f0 < 0) || (decide (0 ≤ x.f4) && decide (x.f4 ≤ mostN x.f0))) = true := by
       by_cases q : mostN x.f0 < 0
       ·
        simp [q]
       ·
        have : 0 ≤ x.f4 ∧ x.f4 ≤ mostN x.f0 := by omega
        simp [this.1, this.2]
      rw [e, Bool.true_and];cases named
      ·
       simp
      ·
       simp only [if_true, Bool.not_true, Bool.false_or];cases (namesOf x).all fun s => nm s.data.toList
       ·
        simp
       ·
        simp
def beginS (l : List S44) (a : Int) : Int := match Y4.f (l.length + 1) l a with
 | some r => r
 | none => -1
theorem zht (l : List S44) : ∀ (n : Nat) (a : Int) (k : Nat), 0 ≤ a → a < l.length → a.toNat = n → n < k → l.length ≤ 1000000000000000 → ∃ r, Y4.f k l a = some r ∧ r ≤ a ∧ -1 ≤ r := by
 intro n;induction n using Nat.strongRecOn with
 | _ n ih =>
  intro a k h0 h1 hn hk hl;obtain ⟨k, rfl⟩ : ∃ m, k = m + 1 := ⟨k - 1, by omega⟩;rw [Y4.f, if_pos h0, if_pos h1];have go : ∀ (cs : List Int) (b : Int), b ≤ a → 0 ≤ b → ∃ r, goB (Y4.f k l) cs b = some r ∧ r ≤ b ∧ -1 ≤ r := by
   intro cs;induction cs with
   | nil => exact fun b _ hb0 => ⟨b, rfl, Int.le_refl _, by omega⟩
   | cons c cs ihc =>
    intro b hb hb0;unfold goB;have hw : wrap64 (b - 1) = b - 1 := by unfold wrap64; omega
    rw [hw];by_cases g : b - 1 < 0
    ·
     exact ⟨-1, if_pos g, by omega, Int.le_refl _⟩
    ·
     rw [if_neg g];by_cases g2 : c = b - 1
     ·
      rw [if_pos g2];obtain ⟨r, hr, hr1, hr2⟩ := ih (b - 1).toNat (by omega) (b - 1) k (by omega) (by omega) rfl (by omega) hl;rw [hr, Option.bind_some];by_cases g3 : r < 0
      ·
       exact ⟨-1, if_pos g3, by omega, Int.le_refl _⟩
      ·
       rw [if_neg g3];obtain ⟨q, hq, hq1, hq2⟩ := ihc r (by omega) (by omega);exact ⟨q, hq, by omega, hq2⟩
     ·
      exact ⟨-1, if_neg g2, by omega, Int.le_refl _⟩
  exact go _ a (Int.le_refl _) h0
theorem zgy (l : List S44) (a : Int) (k : Nat) (h0 : 0 ≤ a) (h1 : a < l.length) (hk : l.length < k) (hl : l.length ≤ 1000000000000000) : Y4.f k l a = some (beginS l a) := by
 obtain ⟨r, hr, _⟩ := zht l a.toNat a (l.length + 1) h0 h1 rfl (by omega) hl;have := zfc (Y4.mono l a) (show l.length + 1 ≤ k by omega) hr;rw [this];unfold beginS;rw [hr]
theorem zcl (l : List S44) (a : Int) (h0 : 0 ≤ a) (h1 : a < l.length) (hl : l.length ≤ 1000000000000000) : beginS l a ≤ a ∧ -1 ≤ beginS l a := by
 obtain ⟨r, hr, h2, h3⟩ := zht l a.toNat a (l.length + 1) h0 h1 rfl (by omega) hl;unfold beginS;rw [hr];exact ⟨h2, h3⟩
def shapedS (l : List S44) (named : Bool) : Bool := decide (1 ≤ l.length) && (decide (l.length ≤ 512) && (l.all (fun x => mayS x named) && (beginS l ((l.length : Int) - 1) == 0)))
theorem zne (l : List S44) (i : Nat) (h : i < l.length) : zl l (i : Int) = l[i] := by
 rw [zl, Int.toNat_natCast, List.getD_eq_getElem?_getD, List.getElem?_eq_getElem h];rfl
theorem zqa (l : List S44) (named : Bool) (hl : l.length ≤ 512) (h1 : 1 ≤ l.length) : ∀ (d i k : Nat), l.length - i = d → i ≤ l.length → d + 600 ≤ k →
  Yb.l0 k l named l (l.length : Int) (i : Int) = some ((l.drop i).all (fun x => mayS x named) && (beginS l ((l.length : Int) - 1) == 0)) := by
 intro d;induction d with
 | zero =>
  intro i k hd hi hk;obtain ⟨k, rfl⟩ : ∃ m, k = m + 1 := ⟨k - 1, by omega⟩;simp only [Yb.l0];rw [if_neg (by omega), show wrap64 ((l.length : Int) - 1) = (l.length : Int) - 1 from by unfold wrap64; omega, zgy l _ k (by omega) (by omega) (by omega) (by omega), List.drop_eq_nil_of_le (by omega)];simp
 | succ d ih =>
  intro i k hd hi hk;obtain ⟨k, rfl⟩ : ∃ m, k = m + 1 := ⟨k - 1, by omega⟩;have hlt : i < l.length := by omega
  simp only [Yb.l0];rw [if_pos (by omega), if_pos (by omega), if_pos (by omega), zne l i hlt, may_is l[i] named k (by omega), List.drop_eq_getElem_cons hlt, List.all_cons];simp only [Option.bind_some];cases hm : mayS l[i] named
  ·
   simp
  ·
   simp only [if_true, Bool.true_and];rw [wrapS (by omega) (by omega), show ((i : Int) + 1) = ((i + 1 : Nat) : Int) from by omega];exact ih (i + 1) k (by omega) (by omega) (by omega)
theorem znf (l : List S44) (named : Bool) (k : Nat) (hk : 1200 ≤ k) : Yb.f k l named = some (shapedS l named) := by
 obtain ⟨k, rfl⟩ : ∃ m, k = m + 1 := ⟨k - 1, by omega⟩;unfold Yb.f shapedS;by_cases h1 : (l.length : Int) < 1
 ·
  rw [if_pos h1];simp [Yb.j0, show ¬ 1 ≤ l.length by omega]
 ·
  rw [if_neg h1];simp only [Yb.j0];by_cases h2 : (l.length : Int) > 512
  ·
   rw [if_pos (by simpa using h2)];simp [show ¬ l.length ≤ 512 by omega]
  ·
   rw [if_neg (by simpa using h2)];have := zqa l named (by omega) (by omega) l.length 0 k rfl (Nat.zero_le _) (by omega);rw [show ((0 : Nat) : Int) = 0 from rfl] at this;rw [this];simp [show 1 ≤ l.length by omega, show l.length ≤ 512 by omega]
def opMayS (o : S42) : Bool := nm o.f0.data.toList && ((o.f1 == 0 || o.f1 == 1) && (o.f2 == 0 || o.f2 == 1))
def opsMayS (os : List S42) : Bool := decide (os.length ≤ 4) && os.all opMayS
theorem bad_is (o : S42) (k : Nat) (hk : 40 ≤ k) : Vw.f k o.f0 o.f1 o.f2 = some (!opMayS o) := by
 unfold Vw.f opMayS;rw [zlj o.f0 k hk];simp only [Option.bind_some, zaw.f];cases nm o.f0.data.toList
 ·
  simp
 ·
  by_cases a : o.f1 = 0 <;> by_cases b : o.f1 = 1 <;> by_cases c : o.f2 = 0 <;> by_cases d : o.f2 = 1 <;> simp [a, b, c, d]
theorem zqb (k : Nat) (hk : 40 ≤ k) : ∀ (os : List S42) (i : Nat), ∃ r, goIdx k os i = some r ∧ (0 ≤ r ↔ os.all opMayS = false)
 | [], i => ⟨-1, rfl, by simp⟩
 | o :: os, i => by
  obtain ⟨r, hr, hiff⟩ := zqb k hk os (i + 1);rw [goIdx, bad_is o k hk, Option.bind_some, List.all_cons];cases opMayS o
  ·
   exact ⟨(i : Int), by simp, by simp⟩
  ·
   exact ⟨r, by simpa using hr, by simpa using hiff⟩
theorem zng (os : List S42) (k : Nat) (hk : 40 ≤ k) : X4.f k os = some (opsMayS os) := by
 unfold X4.f opsMayS;by_cases h : os.length ≤ 4
 ·
  obtain ⟨r, hr, hiff⟩ := zqb k hk os 0;rw [if_pos h, hr, Option.bind_some];simp only [h, decide_true, Bool.true_and, Option.some.injEq];cases ha : os.all opMayS
  ·
   have := hiff.2 ha;simp; omega
  ·
   have : ¬ 0 ≤ r := fun hh => by rw [hiff.1 hh] at ha; cases ha
   simp; omega
 ·
  rw [if_neg h];simp [h]
def treeMayS (os : List S42) (l : List S44) : Bool := opsMayS os && shapedS l true
theorem zrq (os : List S42) (l : List S44) (k : Nat) (hk : 1200 ≤ k) : zb0.f k os l = some (treeMayS os l) := by
 unfold zb0.f treeMayS;rw [zng os k (by omega), znf l true k hk];cases opsMayS os <;> simp
attribute [local go_sem high] zlm
def xg.l0 : Nat → List (S44) → List (S44) → Int → Option (Bool)
 | 0, _, _, _ => none
 | k + 1, x0, x1, x5 => if x5 < (x0.length : Int) then (if 0 ≤ x5 then (if x5 < (x1.length : Int) then (if (!(((zl x0 x5).f0) == ((zl x1 x5).f0)) || (!(((zl x0 x5).f1) == ((zl x1 x5).f1)) || (!(((zl x0 x5).f2) == ((zl x1 x5).f2)) || (!(((zl x0 x5).f3) == ((zl x1 x5).f3)) || (!(((zl x0 x5).f4) == ((zl x1 x5).f4)) || (!((((zl x0 x5).f5).toList) == (((zl x1 x5).f5).toList)) || (!((((zl x0 x5).f6).toList) == (((zl x1 x5).f6).toList)) || (!((((zl x0 x5).f7).toList) == (((zl x1 x5).f7).toList)) || (!((((zl x0 x5).f8).toList) == (((zl x1 x5).f8).toList)) || (!(((zl x0 x5).f9) == ((zl x1 x5).f9)))))))))))) = true then (some false) else (xg.l0 k x0 x1 (wrap64 (x5 + 1)))) else (none)) else (none)) else (some true)
def xg.f (k : Nat) (l0 : List (S44)) (l1 : List (S44)) : Option (Bool) := if (l0.length : Int) = (l1.length : Int) then (xg.l0 k l0 l1 0) else (some false)
theorem xg.zci : ∀ k, (∀ y0 y1 y2, LeO (xg.l0 k y0 y1 y2) (xg.l0 (k + 1) y0 y1 y2))
 | 0 => fun _ _ _ r h => by simp [xg.l0] at h
 | k + 1 => by
  have ih0 := xg.zci k
  ·
   intro y0 y1 y2;unfold xg.l0;repeat' first
   | (with_reducible exact ih0 _ _ _)
   | (with_reducible exact LeO.refl _)
   | (with_reducible exact LeO.none _)
   | (with_reducible refine LeO.ite ?_ ?_)
   | (with_reducible refine LeO.bind ?_ (fun _ => ?_))
   | exact ih0 _ _ _
   | exact LeO.none _
   | refine LeO.ite ?_ ?_
   | refine LeO.bind ?_ (fun _ => ?_)
theorem xg.mono : ∀ a0 a1 k, LeO (xg.f k a0 a1) (xg.f (k + 1) a0 a1) := by
 intro a0 a1 k;have ih0 := xg.zci k;unfold xg.f;repeat' first
   | (with_reducible exact ih0 _ _ _)
   | (with_reducible exact LeO.refl _)
   | (with_reducible exact LeO.none _)
   | (with_reducible refine LeO.ite ?_ ?_)
   | (with_reducible refine LeO.bind ?_ (fun _ => ?_))
   | exact ih0 _ _ _
   | exact LeO.none _
   | refine LeO.ite ?_ ?_
   | refine LeO.bind ?_ (fun _ => ?_)
set_option maxHeartbeats 8000000 in
set_option maxRecDepth 100000 in
theorem xg.calls (k : Nat) (A0 : Option Addr) (c0 : Nat) (l0 : List (S44)) (A1 : Option Addr) (c1 : Nat) (l1 : List (S44)) (r : Bool) (w : World) (hr0 : Kd.C k44 w A0 l0.length l0) (hc0 : l0.length ≤ c0) (hr1 : Kd.C k44 w A1 l1.length l1) (hc1 : l1.length ≤ c1) (h : xg.f k l0 l1 = some r) :
  Calls Tryz.prog 25 #[.slice A0 l0.length c0, .slice A1 l1.length c1] w fun e w' => e = .returned (.bool r) ∧ xm w w' := by
 have hu44 := Tryz.underlying44;have HR0 := zf.mk hr0;have HC0 := zf.mk hc0;clear hr0 hc0;have HR1 := zf.mk hr1;have HC1 := zf.mk hc1;clear hr1 hc1;have H : (if (l0.length : Int) = (l1.length : Int) then (xg.l0 k l0 l1 0) else (some false)) = some r := h;clear h;by_cases c3 : (l0.length : Int) = (l1.length : Int)
 ·
  rw [if_pos c3] at H;have zbm : ((l0.length : Int) == (l1.length : Int)) = true := beq_iff_eq.mpr c3;have zga : ((l0.length : Int) != (l1.length : Int)) = false := bne_eq_false_iff_eq.mpr c3;have c3b2 : (l0.length == l1.length) = true := by first | simpa using c3 | (simp at c3 ⊢; omega)
  clear c3;have H' := zf.mk H;clear H;go_enter Tryz.func25, Tryz.ntmps25;go_wp2
  repeat (go_quiet (fail); try go_wp2)
  go_loopg [5] k (fun kq v5 w' => ∃ (x5_1 : Int), v5 = .int .i64 x5_1 ∧ zf (xg.l0 kq l0 l1 x5_1 = some r) ∧ zf (kq ≤ k) ∧ xm w w')
  case atStart => exact ⟨(0), (by first | rfl | (simp; done) | (simp [*]; done)), H', ⟨Nat.le_refl _⟩, by repeat (first | exact xm.refl _ | apply xm.step)⟩
  case round =>
   clear H';try clear c1
   try clear c2
   try clear p2
   try clear c3
   try clear zbm
   try clear zga
   try clear c3b2
   obtain ⟨x5_1, rfl, HA, HK1, ⟨m1, rfl⟩⟩ := hrel;cases gk with
   | zero => exact absurd HA.out (by simp [xg.l0])
   | succ k1 =>
    have H := HA.out;clear HA;simp only [xg.l0] at H;by_cases c4 : x5_1 < (l0.length : Int)
    ·
     rw [if_pos c4] at H;have zbn : decide (x5_1 < (l0.length : Int)) = true := decide_eq_true c4;clear c4;by_cases c5 : 0 ≤ x5_1
     ·
      rw [if_pos c5] at H;have c5b0 : decide (0 ≤ x5_1) = true := decide_eq_true c5;clear c5;by_cases c6 : x5_1 < (l1.length : Int)
      ·
       rw [if_pos c6] at H;have zic : decide (x5_1 < (l1.length : Int)) = true := decide_eq_true c6;clear c6;by_cases c7 : (!(((zl l0 x5_1).f0) == ((zl l1 x5_1).f0)) || (!(((zl l0 x5_1).f1) == ((zl l1 x5_1).f1)) || (!(((zl l0 x5_1).f2) == ((zl l1 x5_1).f2)) || (!(((zl l0 x5_1).f3) == ((zl l1 x5_1).f3)) || (!(((zl l0 x5_1).f4) == ((zl l1 x5_1).f4)) || (!((((zl l0 x5_1).f5).toList) == (((zl l1 x5_1).f5).toList)) || (!((((zl l0 x5_1).f6).toList) == (((zl l1 x5_1).f6).toList)) || (!((((zl l0 x5_1).f7).toList) == (((zl l1 x5_1).f7).toList)) || (!((((zl l0 x5_1).f8).toList) == (((zl l1 x5_1).f8).toList)) || (!(((zl l0 x5_1).f9) == ((zl l1 x5_1).f9)))))))))))) = true
       ·
        rw [if_pos c7] at H;have zdt : (!(((zl l0 x5_1).f0) == ((zl l1 x5_1).f0)) || (!(((zl l0 x5_1).f1) == ((zl l1 x5_1).f1)) || (!(((zl l0 x5_1).f2) == ((zl l1 x5_1).f2)) || (!(((zl l0 x5_1).f3) == ((zl l1 x5_1).f3)) || (!(((zl l0 x5_1).f4) == ((zl l1 x5_1).f4)) || (!((((zl l0 x5_1).f5).toList) == (((zl l1 x5_1).f5).toList)) || (!((((zl l0 x5_1).f6).toList) == (((zl l1 x5_1).f6).toList)) || (!((((zl l0 x5_1).f7).toList) == (((zl l1 x5_1).f7).toList)) || (!((((zl l0 x5_1).f8).toList) == (((zl l1 x5_1).f8).toList)) || (!(((zl l0 x5_1).f9) == ((zl l1 x5_1).f9)))))))))))) = true := c7;clear c7;obtain rfl := Option.some.inj H;have p137 : 0 ≤ (x5_1 : Int) := of_decide_eq_true (by first | (with_reducible assumption) | assumption);have q137 : x5_1 < (l0.length : Int) := of_decide_eq_true (by first | (with_reducible assumption) | assumption);obtain ⟨ad137, e137, hx137_0, hx137_1, hx137_2, hx137_3, hx137_4, hx137_5, hx137_6, hx137_7, hx137_8, hx137_9⟩ := zbr HR0.out x5_1 p137 q137;cases e137;replace p137 := eq_true p137;replace q137 := eq_true q137;have p138 : 0 ≤ (x5_1 : Int) := of_decide_eq_true (by first | (with_reducible assumption) | assumption);have q138 : x5_1 < (l1.length : Int) := of_decide_eq_true (by first | (with_reducible assumption) | assumption);obtain ⟨ad138, e138, hx138_0, hx138_1, hx138_2, hx138_3, hx138_4, hx138_5, hx138_6, hx138_7, hx138_8, hx138_9⟩ := zbr HR1.out x5_1 p138 q138;cases e138;replace p138 := eq_true p138;replace q138 := eq_true q138;go_wp2
        repeat (go_quiet (fail); try go_wp2)
        go_ret;exact ⟨by first | rfl | (simp; done) | (simp [*]; done), by repeat (first | exact xm.refl _ | apply xm.step)⟩
       ·
        rw [if_neg c7] at H;have zdt : (!(((zl l0 x5_1).f0) == ((zl l1 x5_1).f0)) || (!(((zl l0 x5_1).f1) == ((zl l1 x5_1).f1)) || (!(((zl l0 x5_1).f2) == ((zl l1 x5_1).f2)) || (!(((zl l0 x5_1).f3) == ((zl l1 x5_1).f3)) || (!(((zl l0 x5_1).f4) == ((zl l1 x5_1).f4)) || (!((((zl l0 x5_1).f5).toList) == (((zl l1 x5_1).f5).toList)) || (!((((zl l0 x5_1).f6).toList) == (((zl l1 x5_1).f6).toList)) || (!((((zl l0 x5_1).f7).toList) == (((zl l1 x5_1).f7).toList)) || (!((((zl l0 x5_1).f8).toList) == (((zl l1 x5_1).f8).toList)) || (!(((zl l0 x5_1).f9) == ((zl l1 x5_1).f9)))))))))))) = false := by simpa using c7
        clear c7;have H' := zf.mk H;clear H;have p137 : 0 ≤ (x5_1 : Int) := of_decide_eq_true (by first | (with_reducible assumption) | assumption);have q137 : x5_1 < (l0.length : Int) := of_decide_eq_true (by first | (with_reducible assumption) | assumption);obtain ⟨ad137, e137, hx137_0, hx137_1, hx137_2, hx137_3, hx137_4, hx137_5, hx137_6, hx137_7, hx137_8, hx137_9⟩ := zbr HR0.out x5_1 p137 q137;cases e137;replace p137 := eq_true p137;replace q137 := eq_true q137;have p138 : 0 ≤ (x5_1 : Int) := of_decide_eq_true (by first | (with_reducible assumption) | assumption);have q138 : x5_1 < (l1.length : Int) := of_decide_eq_true (by first | (with_reducible assumption) | assumption);obtain ⟨ad138, e138, hx138_0, hx138_1, hx138_2, hx138_3, hx138_4, hx138_5, hx138_6, hx138_7, hx138_8, hx138_9⟩ := zbr HR1.out x5_1 p138 q138;cases e138;replace p138 := eq_true p138;replace q138 := eq_true q138;go_wp2
        repeat (go_quiet (fail); try go_wp2)
        go_roundg k1
        case measure => have := HK1.out; omega
        case rel => exact ⟨(wrap64 (x5_1 + 1)), (by first | rfl | (simp; done) | (simp [*]; done)), H', ⟨by have := HK1.out; omega⟩, by repeat (first | exact xm.refl _ | apply xm.step)⟩
      ·
       rw [if_neg c6] at H;exact absurd H (by simp)
     ·
      rw [if_neg c5] at H;exact absurd H (by simp)
    ·
     rw [if_neg c4] at H;have zbn : decide (x5_1 < (l0.length : Int)) = false := decide_eq_false c4;clear c4;obtain rfl := Option.some.inj H;go_wp2
     repeat (go_quiet (fail); try go_wp2)
     go_ret;exact ⟨by first | rfl | (simp; done) | (simp [*]; done), by repeat (first | exact xm.refl _ | apply xm.step)⟩
 ·
  rw [if_neg c3] at H;have zbm : ((l0.length : Int) == (l1.length : Int)) = false := beq_eq_false_iff_ne.mpr c3;have zga : ((l0.length : Int) != (l1.length : Int)) = true := bne_iff_ne.mpr c3;have c3b2 : (l0.length == l1.length) = false := by first | simpa using c3 | (simp at c3 ⊢; omega)
  obtain rfl := Option.some.inj H;go_enter Tryz.func25, Tryz.ntmps25;go_wp2
  repeat (go_quiet (fail); try go_wp2)
  go_ret;exact ⟨by first | rfl | (simp; done) | (simp [*]; done), by repeat (first | exact xm.refl _ | apply xm.step)⟩
theorem toList_inj {a b : ByteArray} : a.toList = b.toList ↔ a = b := by
 rw [toList_data, toList_data];exact ⟨zt6, fun h => by rw [h]⟩
theorem zrr (a b : ByteArray) : (a.toList == b.toList) = decide (a = b) := by
 by_cases h : a = b
 ·
  subst h; simp
 ·
  have : ¬ a.toList = b.toList := fun h' => h (toList_inj.1 h')
  rw [decide_eq_false h];simpa using this
theorem node_ext {x y : S44} (h0 : x.f0 = y.f0) (h1 : x.f1 = y.f1) (h2 : x.f2 = y.f2) (h3 : x.f3 = y.f3) (h4 : x.f4 = y.f4) (h5 : x.f5 = y.f5) (h6 : x.f6 = y.f6) (h7 : x.f7 = y.f7) (h8 : x.f8 = y.f8) (h9 : x.f9 = y.f9) : x = y := by
 cases x; cases y;simp only at h0 h1 h2 h3 h4 h5 h6 h7 h8 h9;subst h0; subst h1; subst h2; subst h3; subst h4; subst h5; subst h6; subst h7; subst h8; subst h9;rfl
def eqNode (x y : S44) : Bool := x.f0 == y.f0 && (x.f1 == y.f1 && (x.f2 == y.f2 && (x.f3 == y.f3 && (x.f4 == y.f4 && (decide (x.f5 = y.f5) && (decide (x.f6 = y.f6) && (decide (x.f7 = y.f7) && (decide (x.f8 = y.f8) && x.f9 == y.f9))))))))
theorem zrt (x y : S44) : eqNode x y = true ↔ x = y := by
 constructor
 ·
  intro h;simp only [eqNode, Bool.and_eq_true, beq_iff_eq, decide_eq_true_eq] at h;obtain ⟨h0, h1, h2, h3, h4, h5, h6, h7, h8, h9⟩ := h;exact node_ext h0 h1 h2 h3 h4 h5 h6 h7 h8 h9
 ·
  rintro rfl;simp [eqNode]
def eqNodes : List S44 → List S44 → Bool
 | x :: xs, y :: ys => eqNode x y && eqNodes xs ys
 | [], [] => true
 | _, _ => false
theorem zfo : ∀ xs ys, eqNodes xs ys = true ↔ xs = ys
 | x :: xs, y :: ys => by rw [eqNodes, Bool.and_eq_true, zrt, zfo xs ys, List.cons.injEq]
 | [], [] => by simp [eqNodes]
 | [], y :: ys => by simp [eqNodes]
 | x :: xs, [] => by simp [eqNodes]
theorem zue (l m : List S44) (hlm : l.length = m.length) (hl : l.length ≤ 1000000000000000) : ∀ (d i k : Nat), l.length - i = d → i ≤ l.length → d < k → xg.l0 k l m (i : Int) = some (eqNodes (l.drop i) (m.drop i)) := by
 intro d;induction d with
 | zero =>
  intro i k hd hi hk;obtain ⟨k, rfl⟩ : ∃ n, k = n + 1 := ⟨k - 1, by omega⟩;simp only [xg.l0];rw [if_neg (by omega), List.drop_eq_nil_of_le (by omega), List.drop_eq_nil_of_le (by omega)];rfl
 | succ d ih =>
  intro i k hd hi hk;obtain ⟨k, rfl⟩ : ∃ n, k = n + 1 := ⟨k - 1, by omega⟩;have hlt : i < l.length := by omega
  have hmt : i < m.length := by omega
  simp only [xg.l0];rw [if_pos (by omega), if_pos (by omega), if_pos (by omega), zne l i hlt, zne m i hmt, List.drop_eq_getElem_cons hlt, List.drop_eq_getElem_cons hmt, eqNodes];simp only [zrr];have e : ∀ x y : S44, (!(x.f0 == y.f0) || (!(x.f1 == y.f1) || (!(x.f2 == y.f2) || (!(x.f3 == y.f3) || (!(x.f4 == y.f4) || (!(decide (x.f5 = y.f5)) || (!(decide (x.f6 = y.f6)) || (!(decide (x.f7 = y.f7)) || (!(decide (x.f8 = y.f8)) || (!(x.f9 == y.f9))))))))))) = !eqNode x y := by
   intro x y;simp only [eqNode, Bool.not_and]
  rw [e];cases eqNode l[i] m[i]
  ·
   simp
  ·
   simp only [Bool.not_true, Bool.false_eq_true, if_false, Bool.true_and];rw [wrapS (by omega) (by omega), show ((i : Int) + 1) = ((i + 1 : Nat) : Int) from by omega];exact ih (i + 1) k (by omega) (by omega) (by omega)
theorem zlp (l m : List S44) (k : Nat) (hk : l.length < k) (hl : l.length ≤ 1000000000000000) : xg.f k l m = some (eqNodes l m) := by
 unfold xg.f;by_cases h : l.length = m.length
 ·
  rw [if_pos (by omega)];have := zue l m h hl l.length 0 k rfl (Nat.zero_le _) hk;simpa using this
 ·
  rw [if_neg (by omega)];cases he : eqNodes l m
  ·
   rfl
  ·
   exact (h (by rw [(zfo l m).1 he])).elim
def twiceGo : List ByteArray → List S42 → Bool
 | _, [] => false
 | seen, o :: os => if (seen.any fun s => s.toList == o.f0.toList) = true then true else twiceGo (seen ++ [o.f0]) os
theorem zhu {H : Type} {P : Program} {e : TypeId} (he : P.underlying e = some .bool) {v : Value} {z : DataW H × List MemPlace} (h : plainElem P e v = some z) : ∃ x, v = .bool x ∧ z = (.lit (.bool x), []) := by
 unfold plainElem at h;rw [he] at h;cases v with
 | bool x => exact ⟨x, rfl, (Option.some.inj h).symm⟩
 | _ => simp at h
def seenD (seen : List ByteArray) : DataW Unit := Maps.setOf (.lit (.bool true)) (seen.map fun s => .string s.data.toList)
theorem seenD_snoc (seen : List ByteArray) (s : ByteArray) : seenD (seen ++ [s]) = (seenD seen).put (.string s.data.toList) (.lit (.bool true)) := by
 unfold seenD;rw [List.map_append, List.map_cons, List.map_nil, Maps.setOf_snoc]
theorem zqc (seen : List ByteArray) : Maps.IsMap (seenD seen) := (Maps.tidy_setOf _ _ (fun y hy => by obtain ⟨_, _, rfl⟩ := List.mem_map.1 hy; trivial)).isMap
theorem ze9 (s : ByteArray) : s.toList = s.data.toList := by
 exact ByteArray.toList_eq s
theorem seenD_at (s : ByteArray) : ∀ (n : Nat) (seen : List ByteArray), seen.length = n → (seenD seen).atKey (.string s.data.toList) (.lit (.bool false)) = .lit (.bool (seen.any fun t => t.toList == s.toList)) := by
 intro n;induction n with
 | zero =>
  intro seen h;obtain rfl := List.length_eq_zero_iff.1 h;rfl
 | succ n ih =>
  intro seen h;have hne : seen ≠ [] := by intro e; rw [e] at h; simp at h
  obtain ⟨t, r, hs⟩ : ∃ t r, seen = r ++ [t] := ⟨seen.getLast hne, seen.dropLast, (List.dropLast_concat_getLast hne).symm⟩;subst hs;have hr : r.length = n := by simpa using h
  rw [seenD_snoc, List.any_append, List.any_cons, List.any_nil, Bool.or_false];by_cases e : t.data.toList = s.data.toList
  ·
   have e2 : (t.toList == s.toList) = true := by rw [ze9, ze9, e]; simp
   rw [e, Maps.atKey_put_same (zqc r) (by simp [WideAt.IsKeyLit]), e2, Bool.or_true]
  ·
   have e2 : (t.toList == s.toList) = false := by rw [ze9, ze9]; simpa using e
   rw [Maps.atKey_put_other (fun h2 => e (by injection h2 with h2; exact h2.symm)), ih r hr, e2, Bool.or_false]
theorem lawStr : Maps.Keyed Tryz.prog 9 := Maps.string_keyed Tryz.underlying9
theorem zuf {w : World} {b n : Nat} {seen : List ByteArray} (h : w.ownsMap Tryz.prog 9 (plainElem (H := Unit) Tryz.prog 4) b n (seenD seen)) (s : ByteArray) (hs : s.size ≤ maxLen) :
  (Instr.lookup 64 (.map (some b)) (.string s) false).run Tryz.prog w = .ok (.bool (seen.any fun t => t.toList == s.toList)) w := by
 obtain ⟨v, ps, hrun, hv⟩ := h.lookup lawStr Tryz.underlying64 (z := .bool false) (by kernel_rfl) (plainElem_bool Tryz.underlying4 false) (WideMaps.keyOf_string_mk Tryz.underlying9 hs);obtain ⟨x, rfl, hx⟩ := zhu Tryz.underlying4 hv;rw [seenD_at s seen.length seen rfl] at hx;simp only [Prod.mk.injEq, DataW.lit.injEq, Lit.bool.injEq] at hx;rw [hrun, ← hx.1]
set_option maxRecDepth 100000 in
set_option maxHeartbeats 8000000 in
theorem zed (A0 : Option Addr) (c0 : Nat) (l0 : List S42) (w : World) (hr0 : Kd.C k42 w A0 l0.length l0) (hl : l0.length ≤ 4) (hsz : ∀ o ∈ l0, o.f0.size ≤ 1000) :
  Calls Tryz.prog 17 #[.slice A0 l0.length c0] w fun e w' => e = .returned (.bool (twiceGo [] l0)) ∧ Below w.heap.size w w' := by
 have HC := zf.mk hr0;have HZ := zf.mk hsz;obtain ⟨r, hr⟩ : ∃ r, twiceGo [] l0 = r := ⟨_, rfl⟩;rw [hr];have H := zf.mk hr;clear hr0 hsz hr;have hmm := @run_makeMap Tryz.prog;go_enter Tryz.func17, Tryz.ntmps17;go_wp2_with fail
 go_loopw [9] (fun v9 wr => ∃ (i : Nat) (seen : List ByteArray), v9 = .int .i64 i ∧ i ≤ l0.length ∧ zf (twiceGo seen (l0.drop i) = r) ∧ zf (wr.ownsMap Tryz.prog 9 (plainElem (H := Unit) Tryz.prog 4) w.heap.size i (seenD seen)) ∧ zf (Below w.heap.size w wr)) (fun v9 _ => l0.length - (intOf v9).toNat)
 case atStart => exact ⟨0, [], rfl, Nat.zero_le _, H, ⟨World.ownsMap_made _ _ _ _⟩, ⟨(Below.refl _ _).alloc (Nat.le_refl _) _⟩⟩
 case round =>
  obtain ⟨i, seen, rfl, hi, HG, HM, HB⟩ := hrel;clear H;by_cases hlt : i < l0.length
  ·
   have hcr : Kd.C k42 wr A0 l0.length l0 := Kd.Zq HC.out HB.out;obtain ⟨ad, e157, hx0, hx1, hx2⟩ := za5 hcr i (by omega) (by omega);cases e157;have hxx : l0[i]? = some (Zp l0 i) := by
    rw [List.getElem?_eq_getElem hlt, Zp, Int.toNat_natCast, List.getD_eq_getElem?_getD, List.getElem?_eq_getElem hlt];rfl
   have hsz : (Zp l0 i).f0.size ≤ 1000 := by
    obtain ⟨h2, h3⟩ := List.getElem?_eq_some_iff.1 hxx;rw [← h3];exact HZ.out _ (List.getElem_mem h2)
   have hg := HG.out;rw [← zll hxx, twiceGo] at hg;have HG2 := zf.mk hg;rw [Int.toNat_natCast] at hx0 hx1 hx2;generalize Zp l0 i = x at *;have HM2 := zf.mk (HM.out.alloc (.cells #[.string x.f0, .int .i64 x.f1, .int .i64 x.f2] 42));have hkey := WideMaps.keyOf_string_mk Tryz.underlying9 (s := x.f0) (by unfold maxLen; omega);have HB2 := zf.mk (HB.out.alloc HB.out.size (.cells #[.string x.f0, .int .i64 x.f1, .int .i64 x.f2] 42));have HL := zf.mk (zuf HM2.out x.f0 (by unfold maxLen; omega));have HK := zf.mk hkey;clear hg hxx hcr HG hkey hsz;cases hb : (seen.any fun t => t.toList == x.f0.toList)
   ·
    have hg := HG2.out;rw [hb] at hg;simp only [Bool.false_eq_true, if_false] at hg;have HG3 := zf.mk hg;have hlook := HL.out;rw [hb] at hlook;clear hb hg HG2 HL;go_wp2_with (at_mapUpdate; refine wpList_mapUpdate_own _ rfl _ _ _ 64 rfl 9 4 lawStr Tryz.underlying64 (plainElem (H := Unit) Tryz.prog 4) w.heap.size i _ rfl HM2.out (by unfold maxLen; omega) _ _ _ rfl rfl HK.out _ [] (plainElem_bool Tryz.underlying4 true) ?_; intro w1 hown1 hgrow1; have HM3 := zf.mk hown1; have HGR := zf.mk hgrow1; clear hown1 hgrow1)
    go_roundw
    case rel => exact ⟨i + 1, seen ++ [x.f0], by go_num, by omega, HG3, ⟨by rw [seenD_snoc]; exact HM3.out⟩, ⟨HB2.out.grown HGR.out HB2.out.size (fun j hj => by cases hj; exact Nat.le_refl _)⟩⟩
    case measure => simp [intOf]; omega
   ·
    have hg := HG2.out;rw [hb] at hg;simp only [if_true] at hg;subst hg;have hlook := HL.out;rw [hb] at hlook;clear hb HG2 HL;go_wp2
    go_ret;exact ⟨rfl, HB2.out⟩
  ·
   have hg := HG.out;rw [List.drop_eq_nil_of_le (by omega), twiceGo] at hg;subst hg;clear HG;go_wp2
   go_ret;exact ⟨rfl, HB.out⟩
set_option maxHeartbeats 8000000 in
set_option maxRecDepth 100000 in
theorem cloneOps (ad : Addr) (c0 : Nat) (l0 : List (S42)) (w : World) (hr0 : Kd.C k42 w (some ad) l0.length l0) (hlim : l0.length < 4398046511104) :
  Calls Tryz.prog 18 #[.slice (some ad) l0.length c0] w fun e w' => ∃ v0_ : Value, e = .returned (v0_) ∧ Kd.R k42 42 w' w.heap.size (fun _ => True) v0_ l0 ∧ Below w.heap.size w w' := by
 have HR0 := zf.mk hr0;have LMc2 := zf.mk hlim;clear hr0 hlim;have HB := zf.mk (Below.refl w.heap.size w);have infoE : (Tryz.prog.info? 42).map (fun i => (i.zero, i.size, i.bytes)) = some (some (.agg #[(.string ⟨#[]⟩), (.int .i64 0), (.int .i64 0)]), 3, 32) := by kernel_rfl
 have hnil := fun w => Lib.run_eql_slice_nil (P := Tryz.prog) w 22 42 (some ad) l0.length c0 0 0 Tryz.underlying22
 go_enter Tryz.func18, Tryz.ntmps18;go_wp2_with (first | ((with_reducible refine Yx (N := 5) rfl ?_); refine Kd.zgq k42 _ 42 ?hg (N := 5) ?hd (xs := ([] : List ((S42)))) (inner := []) (ok := fun _ => True) (okp := fun _ => True) ?hr ?hp (fun _ hk => hk) trivial (Below.refl _ _) (Nat.le_refl _) (by simp) ?_; (case hd => rfl); (case hg => rfl); (case hr => first | (go_simp; done) | (go_simp; rfl)); (case hp => exact (Reps.none _ _)); intro v296 w3 ho4 hb hg_ hnew_; clear hg_ hnew_; have n0_ := zf.mk (Kd.X0 ho4 (xn (by repeat (first | (with_reducible first | exact HB.out | apply zh | apply zg | apply zk) | exact HB.out)))); have n1_ := zf.mk (Zc (by repeat (first | (with_reducible first | exact HB.out | apply zh | apply zg | apply zk) | exact HB.out)) hb); clear HB; have zkr := n0_; have HB := n1_; clear n0_ n1_; clear hb ho4) | ((with_reducible refine zaq (b := .append) (xs := #[.tmp 5, .tmp 6]) rfl ?_); at_builtin; refine Kd.zac k42 (w0 := w) w.heap.size rfl (.tmp 5) (.tmp 6) 22 42 (.agg #[(.string ⟨#[]⟩), (.int .i64 0), (.int .i64 0)]) 32 rfl Tryz.underlying22 infoE rfl (by decide) (by omega) v296 [] l0 _ _ _ (fun _ => True) (fun _ => False) rfl rfl ?aO ?aR (fun _ _ h => h) (fun _ h => h.elim) ?aF ?aB ?aS ?aL ?_; (case aR => repeat (first | exact (Kd.Zq HR0.out HB.out) | (with_reducible refine Kd.Yg ?_ _) | (with_reducible refine Kd.Ym ?_ _) | (with_reducible refine Kd.Yv ?_))); (case aB => exact (by repeat (first | (with_reducible first | exact HB.out | apply zh | apply zg | apply zk) | exact HB.out))); (case aF => exact (fun _ _ => trivial)); (case aO => exact (by (with_reducible repeat (first | apply Kd.yf | apply Kd.yj | apply Kd.yu)); exact zkr.out)); (case aS => exact (xn (by repeat (first | (with_reducible first | exact HB.out | apply zh | apply zg | apply zk) | exact HB.out)))); (case aL => have := LMc2.out; simp; omega); intro v299 w5 ho hb hg hat; rw [List.nil_append] at ho; have n0_ := zf.mk (hb); have n1_ := zf.mk (ho); clear HB; clear zkr; have HB := n0_; have zqd := n1_; clear n0_ n1_; clear ho hb hg hat))
 go_ret;exact ⟨_, rfl, by (with_reducible repeat (first | apply Kd.yf | apply Kd.yj | apply Kd.yu)); exact zqd.out, by repeat (first | (with_reducible first | exact HB.out | apply zh | apply zg | apply zk) | exact HB.out)⟩
set_option maxHeartbeats 8000000 in
set_option maxRecDepth 100000 in
theorem zou (c0 : Nat) (w : World) :
  Calls Tryz.prog 18 #[.slice none 0 c0] w fun e w' => e = .returned (.slice none 0 0) ∧ Below w.heap.size w w' := by
 have hnil := fun w => Lib.run_eql_slice_nil (P := Tryz.prog) w 22 42 none 0 c0 0 0 Tryz.underlying22
 go_enter Tryz.func18, Tryz.ntmps18;go_wp2
 go_ret;exact ⟨rfl, Below.refl _ _⟩
theorem zow (A0 : Option Addr) (c0 : Nat) (l0 : List (S42)) (w : World) (hr0 : Kd.C k42 w A0 l0.length l0) (hlim : l0.length < 4398046511104) :
  Calls Tryz.prog 18 #[.slice A0 l0.length c0] w fun e w' => ∃ v0_ : Value, e = .returned (v0_) ∧ Kd.R k42 42 w' w.heap.size (fun _ => True) v0_ l0 ∧ Below w.heap.size w w' := by
 cases A0 with
 | some ad => exact cloneOps ad c0 l0 w hr0 hlim
 | none =>
  have hl : l0 = [] := by
   rcases Nat.eq_zero_or_pos l0.length with h | h
   ·
    exact List.length_eq_zero_iff.1 h
   ·
    obtain ⟨ad, e, _⟩ := hr0.2.2 h;cases e
  subst hl;exact (zou c0 w).mono fun e w' ⟨he, hb⟩ => ⟨_, he, Kd.zfg _ _ _ _ _, hb⟩
set_option maxHeartbeats 8000000 in
set_option maxRecDepth 100000 in
theorem zqe (ad : Addr) (c0 : Nat) (l0 : List S44) (w : World) (hr0 : Kd.C k44 w (some ad) l0.length l0) (hlim : l0.length < 1256584717458) :
  Calls Tryz.prog 19 #[.slice (some ad) l0.length c0] w fun e w' => ∃ v0_ : Value, e = .returned (v0_) ∧ Kd.R k44 44 w' w.heap.size (fun _ => True) v0_ l0 ∧ Below w.heap.size w w' := by
 have HR0 := zf.mk hr0;have LMc2 := zf.mk hlim;clear hr0 hlim;have HB := zf.mk (Below.refl w.heap.size w);have info45 : (Tryz.prog.info? 44).map (fun i => (i.zero, i.size, i.bytes)) = some (some (.agg #[(.int .i64 0), (.int .i64 0), (.int .i64 0), (.int .i64 0), (.int .i64 0), (.string ⟨#[]⟩), (.string ⟨#[]⟩), (.string ⟨#[]⟩), (.string ⟨#[]⟩), (.int .i64 0)]), 10, 112) := by kernel_rfl
 have hnil := fun w => Lib.run_eql_slice_nil (P := Tryz.prog) w 23 44 (some ad) l0.length c0 0 0 Tryz.underlying23
 go_enter Tryz.func19, Tryz.ntmps19;go_wp2_with (first | ((with_reducible refine Yx (N := 5) rfl ?_); refine Kd.zgq k44 _ 44 ?hg (N := 5) ?hd (xs := ([] : List (S44))) (inner := []) (ok := fun _ => True) (okp := fun _ => True) ?hr ?hp (fun _ hk => hk) trivial (Below.refl _ _) (Nat.le_refl _) (by simp) ?_; (case hd => rfl); (case hg => rfl); (case hr => first | (go_simp; done) | (go_simp; rfl)); (case hp => exact (Reps.none _ _)); intro v296 w3 ho4 hb hg_ hnew_; clear hg_ hnew_; have n0_ := zf.mk (Kd.X0 ho4 (xn (by repeat (first | (with_reducible first | exact HB.out | apply zh | apply zg | apply zk) | exact HB.out)))); have n1_ := zf.mk (Zc (by repeat (first | (with_reducible first | exact HB.out | apply zh | apply zg | apply zk) | exact HB.out)) hb); clear HB; have zkr := n0_; have HB := n1_; clear n0_ n1_; clear hb ho4) | ((with_reducible refine zaq (b := .append) (xs := #[.tmp 5, .tmp 6]) rfl ?_); at_builtin; refine Kd.zac k44 (w0 := w) w.heap.size rfl (.tmp 5) (.tmp 6) 23 44 (.agg #[(.int .i64 0), (.int .i64 0), (.int .i64 0), (.int .i64 0), (.int .i64 0), (.string ⟨#[]⟩), (.string ⟨#[]⟩), (.string ⟨#[]⟩), (.string ⟨#[]⟩), (.int .i64 0)]) 112 rfl Tryz.underlying23 info45 rfl (by decide) (by omega) v296 [] l0 _ _ _ (fun _ => True) (fun _ => False) rfl rfl ?aO ?aR (fun _ _ h => h) (fun _ h => h.elim) ?aF ?aB ?aS ?aL ?_; (case aR => repeat (first | exact (Kd.Zq HR0.out HB.out) | (with_reducible refine Kd.Yg ?_ _) | (with_reducible refine Kd.Ym ?_ _) | (with_reducible refine Kd.Yv ?_))); (case aB => exact (by repeat (first | (with_reducible first | exact HB.out | apply zh | apply zg | apply zk) | exact HB.out))); (case aF => exact (fun _ _ => trivial)); (case aO => exact (by (with_reducible repeat (first | apply Kd.yf | apply Kd.yj | apply Kd.yu)); exact zkr.out)); (case aS => exact (xn (by repeat (first | (with_reducible first | exact HB.out | apply zh | apply zg | apply zk) | exact HB.out)))); (case aL => have := LMc2.out; simp; omega); intro v299 w5 ho hb hg hat; rw [List.nil_append] at ho; have n0_ := zf.mk (hb); have n1_ := zf.mk (ho); clear HB; clear zkr; have HB := n0_; have zqd := n1_; clear n0_ n1_; clear ho hb hg hat))
 go_ret;exact ⟨_, rfl, by (with_reducible repeat (first | apply Kd.yf | apply Kd.yj | apply Kd.yu)); exact zqd.out, by repeat (first | (with_reducible first | exact HB.out | apply zh | apply zg | apply zk) | exact HB.out)⟩
def xe.l0 : Nat → List ByteArray → Int → Int → Option (List ByteArray)
 | 0, _, _, _ => none
 | k + 1, x0, x2, x3 => if x2 < x3 then (if 0 ≤ x3 then (if x3 < (x0.length : Int) then (if 0 ≤ x2 then (if x2 < (x0.length : Int) then (xe.l0 k ((x0.set (x2 : Int).toNat (rdOf ByteArray.empty x0 x3)).set (x3 : Int).toNat (rdOf ByteArray.empty x0 x2)) (wrap64 (x2 + 1)) (wrap64 (x3 - 1))) else (none)) else (none)) else (none)) else (none)) else (some x0)
def xe.f (k : Nat) (l0 : List ByteArray) : Option (List ByteArray) := xe.l0 k l0 0 (wrap64 ((l0.length : Int) - 1))
theorem xe.zci : ∀ k, (∀ y0 y1 y2, LeO (xe.l0 k y0 y1 y2) (xe.l0 (k + 1) y0 y1 y2))
 | 0 => fun _ _ _ r h => by simp [xe.l0] at h
 | k + 1 => by
  have ih0 := xe.zci k
  ·
   intro y0 y1 y2;unfold xe.l0;repeat' first
   | (with_reducible exact ih0 _ _ _)
   | (with_reducible exact LeO.refl _)
   | (with_reducible exact LeO.none _)
   | (with_reducible refine LeO.ite ?_ ?_)
   | (with_reducible refine LeO.bind ?_ (fun _ => ?_))
   | exact ih0 _ _ _
   | exact LeO.none _
   | refine LeO.ite ?_ ?_
   | refine LeO.bind ?_ (fun _ => ?_)
theorem xe.mono : ∀ a0 k, LeO (xe.f k a0) (xe.f (k + 1) a0) := by
 intro a0 k;have ih0 := xe.zci k;unfold xe.f;repeat' first
   | (with_reducible exact ih0 _ _ _)
   | (with_reducible exact LeO.refl _)
   | (with_reducible exact LeO.none _)
   | (with_reducible refine LeO.ite ?_ ?_)
   | (with_reducible refine LeO.bind ?_ (fun _ => ?_))
   | exact ih0 _ _ _
   | exact LeO.none _
   | refine LeO.ite ?_ ?_
   | refine LeO.bind ?_ (fun _ => ?_)
def xe.T3 : Bool × List (List Nat × List Nat) := (true, [([], []), ([], []), ([], []), ([], []), ([], []), ([], []), ([4, 5], [4, 5]), ([6], [6]), ([], []), ([], []), ([8, 9], [8, 9]), ([10], [10]), ([0, 1, 0, 1, 4, 5, 6, 7, 11], [0, 1]), ([12, 7, 0, 1, 4, 5, 6, 7, 11], [7, 12]), ([2, 3, 0, 1, 2, 3, 4, 5, 6, 7, 8, 9, 10, 11, 12, 13], [2, 3]), ([14, 11, 13, 0, 1, 2, 3, 4, 5, 6, 7, 8, 9, 10, 11, 12, 13], [11, 14])])
def xe.B3 : List Nat := [0, 0, 0, 0, 0, 0, 48, 112, 0, 0, 768, 1792, 4083, 8179, 16383, 32767]
theorem xe.tab3 : rtab .any (opsOf Tryz.f40 3) = xe.T3 := by kernel_rfl
theorem xe.bits3 : waitsOk xe.T3.2 xe.B3 = true := by kernel_rfl
set_option maxHeartbeats 8000000 in
set_option maxRecDepth 100000 in
theorem xe.calls (k : Nat) (P0_ : Nat → Prop) (u9000_ : Value) (l0 : List ByteArray) (r : List ByteArray) (w0 w : World) (hB : Below w0.heap.size w0 w) (ho0 : Kd.R Kd.string 9 w w0.heap.size P0_ u9000_ l0) (h : xe.f k l0 = some r) :
  Calls Tryz.prog 40 #[u9000_] w fun e w' => e = .returned (.tuple #[]) ∧ Kd.R Kd.string 9 w' w0.heap.size (fun k_ => (P0_ k_ ∨ w.heap.size ≤ k_)) u9000_ r ∧ Below w0.heap.size w0 w' ∧ Kept w w' (fun k_ => P0_ k_) := by
 have HO0 := zf.mk (show Kd.R Kd.string 9 w w0.heap.size (fun k_ => (P0_ k_ ∨ w.heap.size ≤ k_)) u9000_ l0 from Kd.Zu ho0 (fun k_ hk => (.inl hk)));have HK := zf.mk (Kept.refl w (fun k_ => P0_ k_));have HW0 := zf.mk hB.size;have HB := zf.mk hB;clear hB;have H : (xe.l0 k l0 0 (wrap64 ((l0.length : Int) - 1))) = some r := h;clear h;have H' := zf.mk H;clear H;obtain ⟨Ao2, co2, eo2⟩ := Kd.Vl HO0.out;subst eo2;go_enter Tryz.func40, Tryz.ntmps40;go_wp2
 go_loopg [2, 3] k (fun kq v2 v3 w' => ∃ (x0_1 : List ByteArray) (x2_1 : Int) (x3_1 : Int), v2 = .int .i64 x2_1 ∧ v3 = .int .i64 x3_1 ∧ zf (xe.l0 kq x0_1 x2_1 x3_1 = some r) ∧ zf (kq ≤ k) ∧ zf (Kd.R Kd.string 9 w' w0.heap.size (fun k_ => (P0_ k_ ∨ w.heap.size ≤ k_)) (.slice Ao2 l0.length co2) x0_1) ∧ zf (Kept w w' (fun k_ => P0_ k_)) ∧ zf (Below w0.heap.size w0 w'))
 case atStart => exact ⟨(l0), (0), (wrap64 ((l0.length : Int) - 1)), (by first | rfl | (simp; done) | (simp [*]; done)), (by first | rfl | (simp; done) | (simp [*]; done)), H', ⟨Nat.le_refl _⟩, ⟨by (with_reducible repeat (first | apply Kd.yf | apply Kd.yj | apply Kd.yu)); exact HO0.out⟩, ⟨by repeat (first | (with_reducible first | exact HK.out | apply Kept.alloc | apply Kept.drewN | apply Kept.drew) | exact HK.out)⟩, ⟨by repeat (first | (with_reducible first | exact HB.out | apply zh | apply zg | apply zk) | exact HB.out)⟩⟩
 case round =>
  clear H';try clear p2
  obtain ⟨x0_1, x2_1, x3_1, rfl, rfl, HA, HK1, zbp, HK, HB⟩ := hrel;have hl0_1 := (Kd.Yn zbp.out).1;rw [hl0_1] at zbp
  (try simp only [hl0_1])
  cases gk with
  | zero => exact absurd HA.out (by simp [xe.l0])
  | succ k1 =>
   have H := HA.out;clear HA;simp only [xe.l0] at H;by_cases c3 : x2_1 < x3_1
   ·
    rw [if_pos c3] at H;have zbm : decide (x2_1 < x3_1) = true := decide_eq_true c3;clear c3;by_cases c4 : 0 ≤ x3_1
    ·
     rw [if_pos c4] at H;have zbn : decide (0 ≤ x3_1) = true := decide_eq_true c4;clear c4;by_cases c5 : x3_1 < (x0_1.length : Int)
     ·
      rw [if_pos c5] at H;have c5b0 : decide (x3_1 < (x0_1.length : Int)) = true := decide_eq_true c5;clear c5;by_cases c6 : 0 ≤ x2_1
      ·
       rw [if_pos c6] at H;have zic : decide (0 ≤ x2_1) = true := decide_eq_true c6;clear c6;by_cases c7 : x2_1 < (x0_1.length : Int)
       ·
        rw [if_pos c7] at H;have zdt : decide (x2_1 < (x0_1.length : Int)) = true := decide_eq_true c7;clear c7;obtain ⟨y207, hy207⟩ : ∃ y_ : List ByteArray, y_ = (x0_1.set (x2_1 : Int).toNat (rdOf ByteArray.empty x0_1 x3_1)) := ⟨_, rfl⟩;replace H : (xe.l0 k1 (y207.set (x3_1 : Int).toNat (rdOf ByteArray.empty x0_1 x2_1)) (wrap64 (x2_1 + 1)) (wrap64 (x3_1 - 1))) = some r := by first | (rw [hy207]; with_reducible exact H) | (have H2_ := (Option.bind_some _ _).symm.trans H; rw [hy207]; with_reducible exact H2_) | (have H2_ := (Option.bind_some _ _).symm.trans H; with_reducible exact H2_) | with_reducible exact H | (rw [hy207]; exact H) | exact H
        have Ny207 := zf.mk hy207;clear hy207;obtain ⟨y208, hy208⟩ : ∃ y_ : List ByteArray, y_ = (y207.set (x3_1 : Int).toNat (rdOf ByteArray.empty x0_1 x2_1)) := ⟨_, rfl⟩;replace H : (xe.l0 k1 y208 (wrap64 (x2_1 + 1)) (wrap64 (x3_1 - 1))) = some r := by first | (rw [hy208]; with_reducible exact H) | (have H2_ := (Option.bind_some _ _).symm.trans H; rw [hy208]; with_reducible exact H2_) | (have H2_ := (Option.bind_some _ _).symm.trans H; with_reducible exact H2_) | with_reducible exact H | (rw [hy208]; exact H) | exact H
        have Ny208 := zf.mk hy208;clear hy208;have H' := zf.mk H;clear H;try go_wp2
        have n0_ := zf.mk (Kd.yu zbp.out);have n1_ := zf.mk (Kept.drew HK.out);have n2_ := zf.mk (zk HB.out);clear zbp;clear HK;clear HB;have zbp := n0_;have HK := n1_;have HB := n2_;clear n0_ n1_ n2_;have p205 : 0 ≤ (x3_1 : Int) := of_decide_eq_true (by first | (with_reducible assumption) | assumption);have q205 : x3_1 < (x0_1.length : Int) := of_decide_eq_true (by first | (with_reducible assumption) | assumption);obtain ⟨ad205, e205, zox⟩ := Kd.zf6 (Kd.Yn zbp.out).2.2 x3_1 p205 q205;cases e205;replace p205 := eq_true p205;replace q205 := eq_true q205;have p206 : 0 ≤ (x2_1 : Int) := of_decide_eq_true (by first | (with_reducible assumption) | assumption);have q206 : x2_1 < (x0_1.length : Int) := of_decide_eq_true (by first | (with_reducible assumption) | assumption);obtain ⟨ad206, e206, zoy⟩ := Kd.zf6 (Kd.Yn zbp.out).2.2 x2_1 p206 q206;obtain rfl : ad205 = ad206 := (by injection e206);replace p206 := eq_true p206;replace q206 := eq_true q206;have p8 : 0 ≤ (x2_1 : Int) := of_decide_eq_true (by first | (with_reducible assumption) | assumption);have q8 : (x2_1 : Int) < ((x0_1.length : Int) : Int) := of_decide_eq_true (by first | (with_reducible assumption) | assumption);obtain ⟨go8, co8, eo8, gb8, gl8, cl8, HG8⟩ := Kd.zk8 zbp.out (by omega)
        (first | cases eo8 | (injection eo8 with ea_ en_ ec_; (first | subst ea_ | (injection ea_ with ea_; subst ea_)); subst ec_; clear en_))
        have GB8 := zf.mk gb8;have GG8 := zf.mk HG8;clear gb8 gl8 HG8;have HMgo8 := zf.mk (show (P0_ go8 ∨ w.heap.size ≤ go8) from (zbp.out.1 _ rfl))
        (first | simp only [add_plain] at zox | skip)
        (first | simp only [add_plain] at zoy | skip)
        obtain ⟨hx8_0, hf8_0⟩ := Kd.zr6 (⟨#[]⟩ : ByteArray) zbp.out (x2_1 : Int) p8 q8;replace p8 := eq_true p8;replace q8 := eq_true q8;have HP11 := Kd.R_putn zbp.out (x2_1 : Int) (rdOf ByteArray.empty x0_1 x3_1);rw [← Ny207.out] at HP11;have HQ11 := zf.mk HP11;clear HP11;have p9 : 0 ≤ (x3_1 : Int) := of_decide_eq_true (by first | (with_reducible assumption) | assumption);have q9 : (x3_1 : Int) < ((x0_1.length : Int) : Int) := of_decide_eq_true (by first | (with_reducible assumption) | assumption);obtain ⟨hx9_0, hf9_0⟩ := Kd.zr6 (⟨#[]⟩ : ByteArray) HQ11.out (x3_1 : Int) p9 q9;replace p9 := eq_true p9;replace q9 := eq_true q9;have HP12 := Kd.R_putn HQ11.out (x3_1 : Int) (rdOf ByteArray.empty x0_1 x2_1);rw [← Ny208.out] at HP12;have HQ12 := zf.mk HP12;clear HP12;refine zlf (n := 16) (S := fun w' => w'.cell? ⟨go8, (x3_1).toNat, none⟩ = some (.string (rdOf ByteArray.empty x0_1 x3_1)) ∧ w'.cell? ⟨go8, (x2_1).toNat, none⟩ = some (.string (rdOf ByteArray.empty x0_1 x2_1))) (ds := [13, 15]) #[false, false, false, false, false, false, false, false, false, false, false, false, false, false, false, false] (by kernel_rfl) rfl rfl ⟨zox, zoy⟩ (fun hHeld => ?_); refine zji xe.tab3 xe.bits3 (fun HT_ HW_ => ?_);generalize wr.drew = w10 at zbp HK HB GG8 HQ11 HQ12 hf8_0 hf9_0 zox zoy hx8_0 hx9_0 hHeld ⊢;refine zad (i := 0) (N := some 14) (v := ?_) (a' := ?_) #[true, false, false, false, false, false, false, false, false, false, false, false, false, false, false, false] rfl rfl (zae HT_.out (by kernel_rfl)) (fun _ _ _ h => h) (Or.inl ⟨by rfl, ?_⟩) ?_ ?_;rotate_left
        ·
         intro w';go_simp
         with_reducible rfl
        rotate_left
        ·
         simp only [Act.put, List.setIfInBounds_toArray, List.set_cons_zero, List.set_cons_succ, Yy, Y6];rfl
        refine zad (i := 1) (N := some 15) (v := ?_) (a' := ?_) #[true, true, false, false, false, false, false, false, false, false, false, false, false, false, false, false] rfl rfl (zae HT_.out (by kernel_rfl)) (fun _ _ _ h => h) (Or.inl ⟨by rfl, ?_⟩) ?_ ?_;rotate_left
        ·
         intro w';go_simp
         with_reducible rfl
        rotate_left
        ·
         simp only [Act.put, List.setIfInBounds_toArray, List.set_cons_zero, List.set_cons_succ, Yy, Y6];rfl
        refine zad (i := 2) (N := some 16) (v := ?_) (a' := ?_) #[true, true, true, false, false, false, false, false, false, false, false, false, false, false, false, false] rfl rfl (zae HT_.out (by kernel_rfl)) (fun _ _ _ h => h) (Or.inl ⟨by rfl, ?_⟩) ?_ ?_;rotate_left
        ·
         intro w';go_simp
         with_reducible rfl
        rotate_left
        ·
         simp only [Act.put, List.setIfInBounds_toArray, List.set_cons_zero, List.set_cons_succ, Yy, Y6];rfl
        refine zad (i := 3) (N := some 17) (v := ?_) (a' := ?_) #[true, true, true, true, false, false, false, false, false, false, false, false, false, false, false, false] rfl rfl (zae HT_.out (by kernel_rfl)) (fun _ _ _ h => h) (Or.inl ⟨by rfl, ?_⟩) ?_ ?_;rotate_left
        ·
         intro w';go_simp
         with_reducible rfl
        rotate_left
        ·
         simp only [Act.put, List.setIfInBounds_toArray, List.set_cons_zero, List.set_cons_succ, Yy, Y6];rfl
        refine zad (i := 4) (N := some 18) (v := ?_) (a' := ?_) #[true, true, true, true, true, false, false, false, false, false, false, false, false, false, false, false] rfl rfl (zae HT_.out (by kernel_rfl)) (fun _ _ _ h => h) (Or.inl ⟨by rfl, ?_⟩) ?_ ?_;rotate_left
        ·
         intro w';go_simp
         with_reducible rfl
        rotate_left
        ·
         simp only [Act.put, List.setIfInBounds_toArray, List.set_cons_zero, List.set_cons_succ, Yy, Y6];rfl
        refine zad (i := 5) (N := some 19) (v := ?_) (a' := ?_) #[true, true, true, true, true, true, false, false, false, false, false, false, false, false, false, false] rfl rfl (zae HT_.out (by kernel_rfl)) (fun _ _ _ h => h) (Or.inl ⟨by rfl, ?_⟩) ?_ ?_;rotate_left
        ·
         intro w';go_simp
         with_reducible rfl
        rotate_left
        ·
         simp only [Act.put, List.setIfInBounds_toArray, List.set_cons_zero, List.set_cons_succ, Yy, Y6];rfl
        refine zad (i := 6) (N := some 20) (v := ?_) (a' := ?_) #[true, true, true, true, true, true, true, false, false, false, false, false, false, false, false, false] rfl rfl (zae HT_.out (by kernel_rfl)) (fun _ _ _ h => h) (Or.inl ⟨by rfl, ?_⟩) ?_ ?_;rotate_left
        ·
         intro w';go_simp
         with_reducible rfl
        rotate_left
        ·
         simp only [Act.put, List.setIfInBounds_toArray, List.set_cons_zero, List.set_cons_succ, Yy, Y6];rfl
        refine zad (i := 8) (N := some 22) (v := ?_) (a' := ?_) #[true, true, true, true, true, true, true, false, true, false, false, false, false, false, false, false] rfl rfl (zae HT_.out (by kernel_rfl)) (fun _ _ _ h => h) (Or.inl ⟨by rfl, ?_⟩) ?_ ?_;rotate_left
        ·
         intro w';go_simp
         with_reducible rfl
        rotate_left
        ·
         simp only [Act.put, List.setIfInBounds_toArray, List.set_cons_zero, List.set_cons_succ, Yy, Y6];rfl
        refine zad (i := 9) (N := some 23) (v := ?_) (a' := ?_) #[true, true, true, true, true, true, true, false, true, true, false, false, false, false, false, false] rfl rfl (zae HT_.out (by kernel_rfl)) (fun _ _ _ h => h) (Or.inl ⟨by rfl, ?_⟩) ?_ ?_;rotate_left
        ·
         intro w';go_simp
         with_reducible rfl
        rotate_left
        ·
         simp only [Act.put, List.setIfInBounds_toArray, List.set_cons_zero, List.set_cons_succ, Yy, Y6];rfl
        refine zad (i := 10) (N := some 24) (v := ?_) (a' := ?_) #[true, true, true, true, true, true, true, false, true, true, true, false, false, false, false, false] rfl rfl (zae HT_.out (by kernel_rfl)) (fun _ _ _ h => h) (Or.inl ⟨by rfl, ?_⟩) ?_ ?_;rotate_left
        ·
         intro w';go_simp
         with_reducible rfl
        rotate_left
        ·
         simp only [Act.put, List.setIfInBounds_toArray, List.set_cons_zero, List.set_cons_succ, Yy, Y6];rfl
        refine zes (i := 7) (N := some 21) (v := ?_) (a' := ?_) #[true, true, true, true, true, true, true, true, true, true, true, false, false, false, false, false] rfl rfl (zda HT_.out HW_.out (by kernel_rfl)) (fun _ _ _ h => h) (Or.inl ⟨by rfl, ?_⟩) hHeld ?_ ?_;rotate_left
        ·
         rintro w' ⟨s0, s1⟩;go_simp
         with_reducible rfl
        rotate_left
        ·
         simp only [Act.put, List.setIfInBounds_toArray, List.set_cons_zero, List.set_cons_succ, Yy, Y6];rfl
        refine zes (i := 11) (N := some 25) (v := ?_) (a' := ?_) #[true, true, true, true, true, true, true, true, true, true, true, true, false, false, false, false] rfl rfl (zda HT_.out HW_.out (by kernel_rfl)) (fun _ _ _ h => h) (Or.inl ⟨by rfl, ?_⟩) hHeld ?_ ?_;rotate_left
        ·
         rintro w' ⟨s0, s1⟩;go_simp
         with_reducible rfl
        rotate_left
        ·
         simp only [Act.put, List.setIfInBounds_toArray, List.set_cons_zero, List.set_cons_succ, Yy, Y6];rfl
        refine zad (i := 12) (N := some 26) (v := ?_) (a' := ?_) #[true, true, true, true, true, true, true, true, true, true, true, true, true, false, false, false] rfl rfl (zae HT_.out (by kernel_rfl)) (fun _ _ _ h => h) (Or.inl ⟨by rfl, ?_⟩) ?_ ?_;rotate_left
        ·
         intro w';go_simp
         with_reducible rfl
        rotate_left
        ·
         simp only [Act.put, List.setIfInBounds_toArray, List.set_cons_zero, List.set_cons_succ, Yy, Y6];rfl
        refine last_ (i := 13) (N := none) #[true, true, true, true, true, true, true, true, true, true, true, true, true, true, false, false] rfl rfl (zfi HT_.out (by kernel_rfl)) (by decide) (fun K hK => ?_);refine skip_ (w1 := ?_) (by rfl) rfl ?_ ?_;rotate_left
        ·
         go_simp
         rfl
        refine hK.out _ _ ?_;clear hK K;refine zad (i := 14) (N := some 27) (v := ?_) (a' := ?_) #[true, true, true, true, true, true, true, true, true, true, true, true, true, true, true, false] rfl rfl (zae HT_.out (by kernel_rfl)) (fun _ _ _ h => h) (Or.inl ⟨by rfl, ?_⟩) ?_ ?_;rotate_left
        ·
         intro w';go_simp
         with_reducible rfl
        rotate_left
        ·
         simp only [Act.put, List.setIfInBounds_toArray, List.set_cons_zero, List.set_cons_succ, Yy, Y6];rfl
        refine last_ (i := 15) (N := none) #[true, true, true, true, true, true, true, true, true, true, true, true, true, true, true, true] rfl rfl (zfi HT_.out (by kernel_rfl)) (by decide) (fun K hK => ?_);refine skip_ (w1 := ?_) (by rfl) rfl ?_ ?_;rotate_left
        ·
         go_simp
         rfl
        refine hK.out _ _ ?_;clear hK K;refine zps (zoe HT_.out (by kernel_rfl)) ?_;try go_wp2
        (try simp only [← hl0_1])
        go_roundg k1
        case measure => have := HK1.out; omega
        case rel => exact ⟨(y208), (wrap64 (x2_1 + 1)), (wrap64 (x3_1 - 1)), (by first | rfl | (simp; done) | (simp [*]; done)), (by first | rfl | (simp; done) | (simp [*]; done)), H', ⟨by have := HK1.out; omega⟩, ⟨by (try simp only [hl0_1]); (with_reducible repeat (first | apply Kd.yf | apply Kd.yj | apply Kd.yu)); exact HQ12.out⟩, ⟨by repeat (first | (with_reducible first | exact HK.out | apply Kept.alloc | apply Kept.drewN | apply Kept.drew | refine Kept.setCell ?_ HMgo8.out _ | refine Kept.setCell ?_ HMgo8.out _) | exact HK.out)⟩, ⟨by repeat (first | (with_reducible first | exact HB.out | apply zh | apply zg | apply zk | refine zi ?_ GB8.out | refine zi ?_ GB8.out) | exact HB.out)⟩⟩
       ·
        rw [if_neg c7] at H;exact absurd H (by simp)
      ·
       rw [if_neg c6] at H;exact absurd H (by simp)
     ·
      rw [if_neg c5] at H;exact absurd H (by simp)
    ·
     rw [if_neg c4] at H;exact absurd H (by simp)
   ·
    rw [if_neg c3] at H;have zbm : decide (x2_1 < x3_1) = false := decide_eq_false c3;clear c3;obtain rfl := Option.some.inj H;go_wp2
    first | go_end0 | ((try simp only [Exit.inBlock, Exit.then]); refine bodyPost_ret (results_none rfl _ _ _) rfl ?_)
    exact ⟨by first | rfl | (simp [Zd, Ze] <;> rfl) | (simp [*, Zd, Ze] <;> rfl), (by first | exact (by (with_reducible repeat (first | apply Kd.yf | apply Kd.yj | apply Kd.yu)); exact zbp.out) | (simp only [hl0_1]; exact (by (with_reducible repeat (first | apply Kd.yf | apply Kd.yj | apply Kd.yu)); exact zbp.out))), by repeat (first | (with_reducible first | exact HB.out | apply zh | apply zg | apply zk) | exact HB.out), by repeat (first | (with_reducible first | exact HK.out | apply Kept.alloc | apply Kept.drewN | apply Kept.drew) | exact HK.out)⟩
def bindsOf (kind : Int) : Int × Int × Int := if kind = 3 then (1, 0, 0) else if kind = 5 then (0, 1, 0) else if kind = 6 then (2, 1, 0) else if kind = 10 then (0, 2, 1) else (0, 0, 0)
set_option maxRecDepth 100000 in
set_option maxHeartbeats 4000000 in
theorem zgz (kind : Int) (w : World) :
  Calls Tryz.prog 56 #[.int .i64 kind] w fun e w' => e = .returned (.agg #[.int .i64 (bindsOf kind).1, .int .i64 (bindsOf kind).2.1, .int .i64 (bindsOf kind).2.2]) ∧ Below w.heap.size w w' := by
 by_cases c3 : kind = 3
 ·
  subst c3;go_enter Tryz.func56, Tryz.ntmps56;go_wp2
  exact bodyPost_ret (v := .agg #[.int .i64 1, .int .i64 0, .int .i64 0]) (by simp [results, Tryz.results56, go_sem]) rfl ⟨rfl, (Below.refl _ _).alloc (Nat.le_refl _) _⟩
 ·
  skip
  by_cases c5 : kind = 5
  ·
   subst c5;go_enter Tryz.func56, Tryz.ntmps56;go_wp2
   exact bodyPost_ret (v := .agg #[.int .i64 0, .int .i64 1, .int .i64 0]) (by simp [results, Tryz.results56, go_sem]) rfl ⟨rfl, (Below.refl _ _).alloc (Nat.le_refl _) _⟩
  ·
   skip
   by_cases c6 : kind = 6
   ·
    subst c6;go_enter Tryz.func56, Tryz.ntmps56;go_wp2
    exact bodyPost_ret (v := .agg #[.int .i64 2, .int .i64 1, .int .i64 0]) (by simp [results, Tryz.results56, go_sem]) rfl ⟨rfl, (Below.refl _ _).alloc (Nat.le_refl _) _⟩
   ·
    skip
    by_cases c10 : kind = 10
    ·
     subst c10;go_enter Tryz.func56, Tryz.ntmps56;go_wp2
     exact bodyPost_ret (v := .agg #[.int .i64 0, .int .i64 2, .int .i64 1]) (by simp [results, Tryz.results56, go_sem]) rfl ⟨rfl, (Below.refl _ _).alloc (Nat.le_refl _) _⟩
    ·
     skip
     have b3 : (kind == 3) = false := beq_eq_false_iff_ne.mpr c3;have b5 : (kind == 5) = false := beq_eq_false_iff_ne.mpr c5;have b6 : (kind == 6) = false := beq_eq_false_iff_ne.mpr c6;have b10 : (kind == 10) = false := beq_eq_false_iff_ne.mpr c10;have e : bindsOf kind = (0, 0, 0) := by
      unfold bindsOf;rw [if_neg c3, if_neg c5, if_neg c6, if_neg c10]
     rw [e];clear e c3 c5 c6 c10;go_enter Tryz.func56, Tryz.ntmps56;go_wp2
     exact bodyPost_ret (v := .agg #[.int .i64 0, .int .i64 0, .int .i64 0]) (by simp [results, Tryz.results56, go_sem]) rfl ⟨rfl, (Below.refl _ _).alloc (Nat.le_refl _) _⟩
theorem zbg {kind a b c : Int} (h : bindsOf kind = (a, b, c)) (w : World) :
  Calls Tryz.prog 56 #[.int .i64 kind] w fun e w' => e = .returned (.agg #[.int .i64 a, .int .i64 b, .int .i64 c]) ∧ Below w.heap.size w w' := by
 have h1 := zgz kind w;rw [h] at h1;exact h1
theorem zet (a b c : Int) (w : World) : (Instr.index 91 (.agg #[.int .i64 a, .int .i64 b, .int .i64 c]) (.int .i64 0)).run Tryz.prog w = .ok (.int .i64 a) w := by kernel_rfl
theorem zeu (a b c : Int) (w : World) : (Instr.index 91 (.agg #[.int .i64 a, .int .i64 b, .int .i64 c]) (.int .i64 1)).run Tryz.prog w = .ok (.int .i64 b) w := by kernel_rfl
theorem zev (a b c : Int) (w : World) : (Instr.index 91 (.agg #[.int .i64 a, .int .i64 b, .int .i64 c]) (.int .i64 2)).run Tryz.prog w = .ok (.int .i64 c) w := by kernel_rfl
def boundOf (x : S44) (i : Nat) : List ByteArray :=
 if x.f0 = 3 ∧ i = 0 then [x.f6] else if x.f0 = 5 ∧ i = 1 then [x.f6] else if x.f0 = 6 ∧ i = 0 then [x.f6, x.f7] else if x.f0 = 6 ∧ i = 1 then [x.f6] else if x.f0 = 10 ∧ i = 1 then [x.f6, x.f7] else if x.f0 = 10 ∧ i = 2 then [x.f8] else []
theorem strC {w : World} {g : Nat} {cs : List Value} {names : List ByteArray} (h : w.heap[g]? = some (.cells cs.toArray 9 (0, 0))) (hn : cs.take names.length = names.map Value.string) (hm : names.length ≤ 4) : Kd.C Kd.string w (some ⟨g, 0, none⟩) names.length names := by
 refine ⟨rfl, by omega, fun _ => ⟨_, rfl, fun j p hj => ⟨[.string p], rfl, rfl, fun i u hu => ?_⟩⟩⟩;have hi : i = 0 := by
  have := (List.getElem?_eq_some_iff.1 hu).1;simp at this;exact this
 subst hi;obtain rfl : Value.string p = u := by simpa using hu
 have hjl := (List.getElem?_eq_some_iff.1 hj).1;have h1 : (cs.take names.length)[j]? = some (.string p) := by rw [hn, List.getElem?_map, hj]; rfl
 rw [List.getElem?_take, if_pos hjl] at h1;rw [add_plain, show j * Kd.string.sz + 0 = j from Nat.mul_one j, yc h j];simpa using h1
def BoundPost (names : List ByteArray) (w : World) (e : Ending) (w' : World) : Prop :=
 ∃ (A : Option Addr) (c : Nat), e = .returned (.slice A names.length c) ∧ names.length ≤ c ∧ Kd.C Kd.string w' A names.length names ∧ Below w.heap.size w w'
theorem za4 {w W w3 : World} {x : S44} {i g c : Nat} {cs : List Value} {names : List ByteArray} {e : Ending} (he : e = .returned (.slice (some ⟨g, 0, none⟩) names.length c)) (hW : W.heap[g]? = some (.cells cs.toArray 9 (0, 0))) (hB : Below w.heap.size w W) (hb : Below W.heap.size W w3) (hc : cs.take names.length = names.map Value.string ∧ names.length ≤ c ∧ names.length ≤ 4) (hn : boundOf x i = names) : BoundPost (boundOf x i) w e w3 := by
 subst hn;exact ⟨_, c, he, hc.2.1, strC (zy hW hb) hc.1 hc.2.2, hB.trans (hb.mono hB.size)⟩
set_option maxRecDepth 100000 in
set_option maxHeartbeats 8000000 in
theorem zks (b : Nat) (x : S44) (i : Nat) (w : World) (hi : i < 3) (h0 : w.cell? ⟨b, 0, none⟩ = some (.int .i64 x.f0)) (h6 : w.cell? ⟨b, 6, none⟩ = some (.string x.f6)) (h7 : w.cell? ⟨b, 7, none⟩ = some (.string x.f7)) (h8 : w.cell? ⟨b, 8, none⟩ = some (.string x.f8)) :
  Calls Tryz.prog 45 #[.pointer (some ⟨b, 0, none⟩), .int .i64 i] w (BoundPost (boundOf x i) w) := by
 have hb : b < w.heap.size := World.block_lt_of_cell? w ⟨b, 0, none⟩ h0;have hb2 : b ≠ w.heap.size := Nat.ne_of_lt hb;generalize hk : x.f0 = kind at *;generalize hk6 : x.f6 = n6 at *;generalize hk7 : x.f7 = n7 at *;generalize hk8 : x.f8 = n8 at *;by_cases c3 : kind = 3
 ·
  subst c3;rcases (show i = 0 ∨ i = 1 ∨ i = 2 by omega) with rfl | rfl | rfl
  ·
   skip
   have ix0 := zet;have ix1 := zeu;have ix2 := zev;go_enter Tryz.func45, Tryz.ntmps45;go_wp2_with fail
   go_region
   all_goals go_wp2_with (go_at_call 56; (with_reducible refine (zbg (show bindsOf 3 = (1, 0, 0) from rfl) _).mono ?_); rintro e w3 ⟨rfl, hb3⟩; have HB3 := zf.mk hb3; clear hb3)
   all_goals go_ret
   all_goals refine za4 (cs := [.string n6, .string n7]) (names := [n6]) rfl ?_ ?_ HB3.out ⟨by rfl, by simp, by simp⟩ (by simp [boundOf, hk, hk6, hk7, hk8])
   all_goals first | exact heap_alloc_new w _ | exact Yw ((Below.refl _ _).alloc (Nat.le_refl _) _)
  ·
   skip
   have ix0 := zet;have ix1 := zeu;have ix2 := zev;go_enter Tryz.func45, Tryz.ntmps45;go_wp2_with fail
   go_region
   all_goals go_wp2_with (go_at_call 56; (with_reducible refine (zbg (show bindsOf 3 = (1, 0, 0) from rfl) _).mono ?_); rintro e w3 ⟨rfl, hb3⟩; have HB3 := zf.mk hb3; clear hb3)
   all_goals go_ret
   all_goals refine za4 (cs := [.string n6, .string n7]) (names := []) rfl ?_ ?_ HB3.out ⟨by rfl, by simp, by simp⟩ (by simp [boundOf, hk, hk6, hk7, hk8])
   all_goals first | exact heap_alloc_new w _ | exact Yw ((Below.refl _ _).alloc (Nat.le_refl _) _)
  ·
   skip
   have ix0 := zet;have ix1 := zeu;have ix2 := zev;go_enter Tryz.func45, Tryz.ntmps45;go_wp2_with fail
   go_region
   all_goals go_wp2_with (go_at_call 56; (with_reducible refine (zbg (show bindsOf 3 = (1, 0, 0) from rfl) _).mono ?_); rintro e w3 ⟨rfl, hb3⟩; have HB3 := zf.mk hb3; clear hb3)
   all_goals go_ret
   all_goals refine za4 (cs := [.string n6, .string n7]) (names := []) rfl ?_ ?_ HB3.out ⟨by rfl, by simp, by simp⟩ (by simp [boundOf, hk, hk6, hk7, hk8])
   all_goals first | exact heap_alloc_new w _ | exact Yw ((Below.refl _ _).alloc (Nat.le_refl _) _)
 ·
  skip
  by_cases c5 : kind = 5
  ·
   subst c5;rcases (show i = 0 ∨ i = 1 ∨ i = 2 by omega) with rfl | rfl | rfl
   ·
    skip
    have ix0 := zet;have ix1 := zeu;have ix2 := zev;go_enter Tryz.func45, Tryz.ntmps45;go_wp2_with fail
    go_region
    all_goals go_wp2_with (go_at_call 56; (with_reducible refine (zbg (show bindsOf 5 = (0, 1, 0) from rfl) _).mono ?_); rintro e w3 ⟨rfl, hb3⟩; have HB3 := zf.mk hb3; clear hb3)
    all_goals go_ret
    all_goals refine za4 (cs := [.string n6, .string n7]) (names := []) rfl ?_ ?_ HB3.out ⟨by rfl, by simp, by simp⟩ (by simp [boundOf, hk, hk6, hk7, hk8])
    all_goals first | exact heap_alloc_new w _ | exact Yw ((Below.refl _ _).alloc (Nat.le_refl _) _)
   ·
    skip
    have ix0 := zet;have ix1 := zeu;have ix2 := zev;go_enter Tryz.func45, Tryz.ntmps45;go_wp2_with fail
    go_region
    all_goals go_wp2_with (go_at_call 56; (with_reducible refine (zbg (show bindsOf 5 = (0, 1, 0) from rfl) _).mono ?_); rintro e w3 ⟨rfl, hb3⟩; have HB3 := zf.mk hb3; clear hb3)
    all_goals go_ret
    all_goals refine za4 (cs := [.string n6, .string n7]) (names := [n6]) rfl ?_ ?_ HB3.out ⟨by rfl, by simp, by simp⟩ (by simp [boundOf, hk, hk6, hk7, hk8])
    all_goals first | exact heap_alloc_new w _ | exact Yw ((Below.refl _ _).alloc (Nat.le_refl _) _)
   ·
    skip
    have ix0 := zet;have ix1 := zeu;have ix2 := zev;go_enter Tryz.func45, Tryz.ntmps45;go_wp2_with fail
    go_region
    all_goals go_wp2_with (go_at_call 56; (with_reducible refine (zbg (show bindsOf 5 = (0, 1, 0) from rfl) _).mono ?_); rintro e w3 ⟨rfl, hb3⟩; have HB3 := zf.mk hb3; clear hb3)
    all_goals go_ret
    all_goals refine za4 (cs := [.string n6, .string n7]) (names := []) rfl ?_ ?_ HB3.out ⟨by rfl, by simp, by simp⟩ (by simp [boundOf, hk, hk6, hk7, hk8])
    all_goals first | exact heap_alloc_new w _ | exact Yw ((Below.refl _ _).alloc (Nat.le_refl _) _)
  ·
   skip
   by_cases c6 : kind = 6
   ·
    subst c6;rcases (show i = 0 ∨ i = 1 ∨ i = 2 by omega) with rfl | rfl | rfl
    ·
     skip
     have ix0 := zet;have ix1 := zeu;have ix2 := zev;go_enter Tryz.func45, Tryz.ntmps45;go_wp2_with fail
     go_region
     all_goals go_wp2_with (go_at_call 56; (with_reducible refine (zbg (show bindsOf 6 = (2, 1, 0) from rfl) _).mono ?_); rintro e w3 ⟨rfl, hb3⟩; have HB3 := zf.mk hb3; clear hb3)
     all_goals go_ret
     all_goals refine za4 (cs := [.string n6, .string n7]) (names := [n6, n7]) rfl ?_ ?_ HB3.out ⟨by rfl, by simp, by simp⟩ (by simp [boundOf, hk, hk6, hk7, hk8])
     all_goals first | exact heap_alloc_new w _ | exact Yw ((Below.refl _ _).alloc (Nat.le_refl _) _)
    ·
     skip
     have ix0 := zet;have ix1 := zeu;have ix2 := zev;go_enter Tryz.func45, Tryz.ntmps45;go_wp2_with fail
     go_region
     all_goals go_wp2_with (go_at_call 56; (with_reducible refine (zbg (show bindsOf 6 = (2, 1, 0) from rfl) _).mono ?_); rintro e w3 ⟨rfl, hb3⟩; have HB3 := zf.mk hb3; clear hb3)
     all_goals go_ret
     all_goals refine za4 (cs := [.string n6, .string n7]) (names := [n6]) rfl ?_ ?_ HB3.out ⟨by rfl, by simp, by simp⟩ (by simp [boundOf, hk, hk6, hk7, hk8])
     all_goals first | exact heap_alloc_new w _ | exact Yw ((Below.refl _ _).alloc (Nat.le_refl _) _)
    ·
     skip
     have ix0 := zet;have ix1 := zeu;have ix2 := zev;go_enter Tryz.func45, Tryz.ntmps45;go_wp2_with fail
     go_region
     all_goals go_wp2_with (go_at_call 56; (with_reducible refine (zbg (show bindsOf 6 = (2, 1, 0) from rfl) _).mono ?_); rintro e w3 ⟨rfl, hb3⟩; have HB3 := zf.mk hb3; clear hb3)
     all_goals go_ret
     all_goals refine za4 (cs := [.string n6, .string n7]) (names := []) rfl ?_ ?_ HB3.out ⟨by rfl, by simp, by simp⟩ (by simp [boundOf, hk, hk6, hk7, hk8])
     all_goals first | exact heap_alloc_new w _ | exact Yw ((Below.refl _ _).alloc (Nat.le_refl _) _)
   ·
    skip
    by_cases c10 : kind = 10
    ·
     subst c10;rcases (show i = 0 ∨ i = 1 ∨ i = 2 by omega) with rfl | rfl | rfl
     ·
      skip
      have ix0 := zet;have ix1 := zeu;have ix2 := zev;go_enter Tryz.func45, Tryz.ntmps45;go_wp2_with fail
      go_region
      all_goals go_wp2_with (go_at_call 56; (with_reducible refine (zbg (show bindsOf 10 = (0, 2, 1) from rfl) _).mono ?_); rintro e w3 ⟨rfl, hb3⟩; have HB3 := zf.mk hb3; clear hb3)
      all_goals go_ret
      all_goals refine za4 (cs := [.string n6, .string n7]) (names := []) rfl ?_ ?_ HB3.out ⟨by rfl, by simp, by simp⟩ (by simp [boundOf, hk, hk6, hk7, hk8])
      all_goals first | exact heap_alloc_new w _ | exact Yw ((Below.refl _ _).alloc (Nat.le_refl _) _)
     ·
      skip
      have ix0 := zet;have ix1 := zeu;have ix2 := zev;go_enter Tryz.func45, Tryz.ntmps45;go_wp2_with fail
      go_region
      all_goals go_wp2_with (go_at_call 56; (with_reducible refine (zbg (show bindsOf 10 = (0, 2, 1) from rfl) _).mono ?_); rintro e w3 ⟨rfl, hb3⟩; have HB3 := zf.mk hb3; clear hb3)
      all_goals go_ret
      all_goals refine za4 (cs := [.string n6, .string n7]) (names := [n6, n7]) rfl ?_ ?_ HB3.out ⟨by rfl, by simp, by simp⟩ (by simp [boundOf, hk, hk6, hk7, hk8])
      all_goals first | exact heap_alloc_new w _ | exact Yw ((Below.refl _ _).alloc (Nat.le_refl _) _)
     ·
      skip
      have ix0 := zet;have ix1 := zeu;have ix2 := zev;go_enter Tryz.func45, Tryz.ntmps45;go_wp2_with fail
      go_region
      all_goals go_wp2_with (go_at_call 56; (with_reducible refine (zbg (show bindsOf 10 = (0, 2, 1) from rfl) _).mono ?_); rintro e w3 ⟨rfl, hb3⟩; have HB3 := zf.mk hb3; clear hb3)
      all_goals go_ret
      all_goals refine za4 (cs := [.string n8]) (names := [n8]) rfl ?_ ?_ HB3.out ⟨by rfl, by simp, by simp⟩ (by simp [boundOf, hk, hk8])
      all_goals first | exact Yw (zh ((Below.refl _ _).alloc (Nat.le_refl _) _) _) | (have h9 := heap_alloc_new (w.alloc (.cells #[.string n6, .string n7] 9)) (.cells #[.string n8] 9); rw [show (w.alloc (.cells #[.string n6, .string n7] 9)).heap.size = w.heap.size + 1 from by simp] at h9; exact h9)
    ·
     skip
     have HE := zf.mk (show bindsOf kind = (0, 0, 0) by unfold bindsOf; rw [if_neg c3, if_neg c5, if_neg c6, if_neg c10]);have HN := zf.mk (show boundOf x i = [] by simp [boundOf, hk, c3, c5, c6, c10]);have b10 : (kind == 10) = false := beq_eq_false_iff_ne.mpr c10;clear c3 c5 c6 c10;rcases (show i = 0 ∨ i = 1 ∨ i = 2 by omega) with rfl | rfl | rfl
     ·
      skip
      have ix0 := zet;have ix1 := zeu;have ix2 := zev;go_enter Tryz.func45, Tryz.ntmps45;go_wp2_with fail
      go_region
      all_goals go_wp2_with (go_at_call 56; (with_reducible refine (zbg (show bindsOf kind = (0, 0, 0) from HE.out) _).mono ?_); rintro e w3 ⟨rfl, hb3⟩; have HB3 := zf.mk hb3; clear hb3)
      all_goals go_ret
      all_goals refine za4 (cs := [.string n6, .string n7]) (names := []) rfl ?_ ?_ HB3.out ⟨by rfl, by simp, by simp⟩ HN.out
      all_goals first | exact heap_alloc_new w _ | exact Yw ((Below.refl _ _).alloc (Nat.le_refl _) _)
     ·
      skip
      have ix0 := zet;have ix1 := zeu;have ix2 := zev;go_enter Tryz.func45, Tryz.ntmps45;go_wp2_with fail
      go_region
      all_goals go_wp2_with (go_at_call 56; (with_reducible refine (zbg (show bindsOf kind = (0, 0, 0) from HE.out) _).mono ?_); rintro e w3 ⟨rfl, hb3⟩; have HB3 := zf.mk hb3; clear hb3)
      all_goals go_ret
      all_goals refine za4 (cs := [.string n6, .string n7]) (names := []) rfl ?_ ?_ HB3.out ⟨by rfl, by simp, by simp⟩ HN.out
      all_goals first | exact heap_alloc_new w _ | exact Yw ((Below.refl _ _).alloc (Nat.le_refl _) _)
     ·
      skip
      have ix0 := zet;have ix1 := zeu;have ix2 := zev;go_enter Tryz.func45, Tryz.ntmps45;go_wp2_with fail
      go_region
      all_goals go_wp2_with (go_at_call 56; (with_reducible refine (zbg (show bindsOf kind = (0, 0, 0) from HE.out) _).mono ?_); rintro e w3 ⟨rfl, hb3⟩; have HB3 := zf.mk hb3; clear hb3)
      all_goals go_ret
      all_goals refine za4 (cs := [.string n6, .string n7]) (names := []) rfl ?_ ?_ HB3.out ⟨by rfl, by simp, by simp⟩ HN.out
      all_goals first | exact heap_alloc_new w _ | exact Yw ((Below.refl _ _).alloc (Nat.le_refl _) _)
set_option maxHeartbeats 8000000 in
set_option maxRecDepth 100000 in
theorem cloneStr (ad : Addr) (c0 : Nat) (l0 : List ByteArray) (w : World) (hr0 : Kd.C Kd.string w (some ad) l0.length l0) (hlim : l0.length < 8796093022208) :
  Calls Tryz.prog 39 #[.slice (some ad) l0.length c0] w fun e w' => ∃ v0_ : Value, e = .returned (v0_) ∧ Kd.R Kd.string 9 w' w.heap.size (fun _ => True) v0_ l0 ∧ Below w.heap.size w w' := by
 have HR0 := zf.mk hr0;have LMc2 := zf.mk hlim;clear hr0 hlim;have HB := zf.mk (Below.refl w.heap.size w);have infoE : (Tryz.prog.info? 9).map (fun i => (i.zero, i.size, i.bytes)) = some (some (.string ⟨#[]⟩), 1, 16) := by kernel_rfl
 have hnil := fun w => Lib.run_eql_slice_nil (P := Tryz.prog) w 71 9 (some ad) l0.length c0 0 0 Tryz.underlying71
 go_enter Tryz.func39, Tryz.ntmps39;go_wp2_with (first | ((with_reducible refine Yx (N := 5) rfl ?_); refine Kd.zgq Kd.string _ 9 ?hg (N := 5) ?hd (xs := ([] : List (ByteArray))) (inner := []) (ok := fun _ => True) (okp := fun _ => True) ?hr ?hp (fun _ hk => hk) trivial (Below.refl _ _) (Nat.le_refl _) (by simp) ?_; (case hd => rfl); (case hg => rfl); (case hr => first | (go_simp; done) | (go_simp; rfl)); (case hp => exact (Reps.none _ _)); intro v296 w3 ho4 hb hg_ hnew_; clear hg_ hnew_; have n0_ := zf.mk (Kd.X0 ho4 (xn (by repeat (first | (with_reducible first | exact HB.out | apply zh | apply zg | apply zk) | exact HB.out)))); have n1_ := zf.mk (Zc (by repeat (first | (with_reducible first | exact HB.out | apply zh | apply zg | apply zk) | exact HB.out)) hb); clear HB; have zkr := n0_; have HB := n1_; clear n0_ n1_; clear hb ho4) | ((with_reducible refine zaq (b := .append) (xs := #[.tmp 5, .tmp 6]) rfl ?_); at_builtin; refine Kd.zac Kd.string (w0 := w) w.heap.size rfl (.tmp 5) (.tmp 6) 71 9 (.string ⟨#[]⟩) 16 rfl Tryz.underlying71 infoE rfl (by decide) (by omega) v296 [] l0 _ _ _ (fun _ => True) (fun _ => False) rfl rfl ?aO ?aR (fun _ _ h => h) (fun _ h => h.elim) ?aF ?aB ?aS ?aL ?_; (case aR => repeat (first | exact (Kd.Zq HR0.out HB.out) | (with_reducible refine Kd.Yg ?_ _) | (with_reducible refine Kd.Ym ?_ _) | (with_reducible refine Kd.Yv ?_))); (case aB => exact (by repeat (first | (with_reducible first | exact HB.out | apply zh | apply zg | apply zk) | exact HB.out))); (case aF => exact (fun _ _ => trivial)); (case aO => exact (by (with_reducible repeat (first | apply Kd.yf | apply Kd.yj | apply Kd.yu)); exact zkr.out)); (case aS => exact (xn (by repeat (first | (with_reducible first | exact HB.out | apply zh | apply zg | apply zk) | exact HB.out)))); (case aL => have := LMc2.out; simp; omega); intro v299 w5 ho hb hg hat; rw [List.nil_append] at ho; have n0_ := zf.mk (hb); have n1_ := zf.mk (ho); clear HB; clear zkr; have HB := n0_; have zqd := n1_; clear n0_ n1_; clear ho hb hg hat))
 go_ret;exact ⟨_, rfl, by (with_reducible repeat (first | apply Kd.yf | apply Kd.yj | apply Kd.yu)); exact zqd.out, by repeat (first | (with_reducible first | exact HB.out | apply zh | apply zg | apply zk) | exact HB.out)⟩
set_option maxHeartbeats 8000000 in
set_option maxRecDepth 100000 in
theorem zoz (c0 : Nat) (w : World) :
  Calls Tryz.prog 39 #[.slice none 0 c0] w fun e w' => e = .returned (.slice none 0 0) ∧ Below w.heap.size w w' := by
 have hnil := fun w => Lib.run_eql_slice_nil (P := Tryz.prog) w 71 9 none 0 c0 0 0 Tryz.underlying71
 go_enter Tryz.func39, Tryz.ntmps39;go_wp2
 go_ret;exact ⟨rfl, Below.refl _ _⟩
theorem zo0 (A0 : Option Addr) (c0 : Nat) (l0 : List ByteArray) (w : World) (hr0 : Kd.C Kd.string w A0 l0.length l0) (hlim : l0.length < 8796093022208) :
  Calls Tryz.prog 39 #[.slice A0 l0.length c0] w fun e w' => ∃ v0_ : Value, e = .returned (v0_) ∧ Kd.R Kd.string 9 w' w.heap.size (fun _ => True) v0_ l0 ∧ Below w.heap.size w w' := by
 cases A0 with
 | some ad => exact cloneStr ad c0 l0 w hr0 hlim
 | none =>
  have hl : l0 = [] := by
   rcases Nat.eq_zero_or_pos l0.length with h | h
   ·
    exact List.length_eq_zero_iff.1 h
   ·
    obtain ⟨ad, e, _⟩ := hr0.2.2 h;cases e
  subst hl;exact (zoz c0 w).mono fun e w' ⟨he, hb⟩ => ⟨_, he, Kd.zfg _ _ _ _ _, hb⟩
def opIdx (s : ByteArray) : List S42 → Nat → Int
 | [], _ => -1
 | o :: os, i => if (o.f0.toList == s.toList) = true then (i : Int) else opIdx s os (i + 1)
set_option maxRecDepth 100000 in
set_option maxHeartbeats 8000000 in
theorem ziq (gn : Nat) (s n : ByteArray) (f1 f2 : Int) (w : World) (hs : w.heap[gn]? = some (.cells #[.string s] 9 (0, 0))) :
  Calls Tryz.prog 67 #[.agg #[.string n, .int .i64 f1, .int .i64 f2], .pointer (some ⟨gn, 0, none⟩)] w fun e w' => e = .returned (.bool (n.toList == s.toList)) ∧ Below w.heap.size w w' := by
 have c0 : w.cell? ⟨gn, 0, none⟩ = some (.string s) := yc hs 0;have hlt := Yp hs;have hne : gn ≠ w.heap.size := Nat.ne_of_lt hlt;clear hs;go_enter Tryz.func67, Tryz.ntmps67;go_wp2
 try go_quiet (fail)
 try go_wp2
 go_ret;exact ⟨rfl, by first | exact Below.refl _ _ | exact zg (Below.refl _ _) _ | exact (Below.refl _ _).alloc (Nat.le_refl _) _ | exact zg ((Below.refl _ _).alloc (Nat.le_refl _) _) _⟩
set_option maxRecDepth 100000 in
set_option maxHeartbeats 8000000 in
theorem zk1 (gn : Nat) (s : ByteArray) (A0 : Option Addr) (c0 : Nat) (l0 : List S42) (w : World) (hs : w.heap[gn]? = some (.cells #[.string s] 9 (0, 0))) (hr0 : Kd.C k42 w A0 l0.length l0) (hl : l0.length ≤ 4) :
  Calls Tryz.prog 66 #[.slice A0 l0.length c0, .func (.func 67) #[] #[.pointer (some ⟨gn, 0, none⟩)]] w fun e w' => e = .returned (.int .i64 (opIdx s l0 0)) ∧ Below w.heap.size w w' := by
 have HC := zf.mk hr0;have HS := zf.mk hs;obtain ⟨r, hr⟩ : ∃ r, opIdx s l0 0 = r := ⟨_, rfl⟩;rw [hr];have H := zf.mk hr;clear hr0 hs hr;go_enter Tryz.func66, Tryz.ntmps66;go_wp2_with fail
 go_loopw [8] (fun v8 wr => ∃ (i : Nat), v8 = .int .i64 i ∧ i ≤ l0.length ∧ zf (opIdx s (l0.drop i) i = r) ∧ zf (Below w.heap.size w wr)) (fun v8 _ => l0.length - (intOf v8).toNat)
 case atStart => exact ⟨0, rfl, Nat.zero_le _, H, ⟨Below.refl _ _⟩⟩
 case round =>
  obtain ⟨i, rfl, hi, HG, HB⟩ := hrel;clear H;by_cases hlt : i < l0.length
  ·
   have hcr : Kd.C k42 wr A0 l0.length l0 := Kd.Zq HC.out HB.out;obtain ⟨ad, e157, hx0, hx1, hx2⟩ := za5 hcr i (by omega) (by omega);cases e157;have hxx : l0[i]? = some (Zp l0 i) := by
    rw [List.getElem?_eq_getElem hlt, Zp, Int.toNat_natCast, List.getD_eq_getElem?_getD, List.getElem?_eq_getElem hlt];rfl
   have hg := HG.out;rw [← zll hxx, opIdx] at hg;have HG2 := zf.mk hg;rw [Int.toNat_natCast] at hx0 hx1 hx2;generalize Zp l0 i = x at *;have HSR := zf.mk (zy HS.out HB.out);clear hg hxx hcr HG;cases hb : (x.f0.toList == s.toList)
   ·
    have hg := HG2.out;rw [hb] at hg;simp only [Bool.false_eq_true, if_false] at hg;have HG3 := zf.mk hg;have HN := zf.mk (ziq gn s x.f0 x.f1 x.f2 wr HSR.out);rw [hb] at HN;clear hb hg HG2;go_wp2_with (go_at_call 67; (with_reducible refine HN.out.mono ?_); rintro e w3 ⟨rfl, hb3⟩; have HB3 := zf.mk hb3; clear hb3)
    go_roundw
    case rel => exact ⟨i + 1, by go_num, by omega, HG3, ⟨HB.out.trans (HB3.out.mono HB.out.size)⟩⟩
    case measure => simp [intOf]; omega
   ·
    have hg := HG2.out;rw [hb] at hg;simp only [if_true] at hg;subst hg;have HN := zf.mk (ziq gn s x.f0 x.f1 x.f2 wr HSR.out);rw [hb] at HN;clear hb HG2;go_wp2_with (go_at_call 67; (with_reducible refine HN.out.mono ?_); rintro e w3 ⟨rfl, hb3⟩; have HB3 := zf.mk hb3; clear hb3)
    go_ret;exact ⟨rfl, HB.out.trans (HB3.out.mono HB.out.size)⟩
  ·
   have hg := HG.out;rw [List.drop_eq_nil_of_le (by omega), opIdx] at hg;subst hg;clear HG;go_wp2
   go_ret;exact ⟨rfl, HB.out⟩
set_option maxRecDepth 100000 in
set_option maxHeartbeats 8000000 in
theorem op_calls (g : Nat) (s : ByteArray) (A0 : Option Addr) (c0 : Nat) (l0 : List S42) (vn : Value) (w : World) (hg : w.heap[g]? = some (.cells #[.slice A0 l0.length c0, vn] 46 (0, 0))) (hr0 : Kd.C k42 w A0 l0.length l0) (hl : l0.length ≤ 4) :
  Calls Tryz.prog 42 #[.pointer (some ⟨g, 0, none⟩), .string s] w fun e w' => e = .returned (.int .i64 (opIdx s l0 0)) ∧ Below w.heap.size w w' := by
 have c0 : w.cell? ⟨g, 0, none⟩ = some (.slice A0 l0.length c0) := yc hg 0;have hlt := Yp hg;have hne : g ≠ w.heap.size := Nat.ne_of_lt hlt;have HC := zf.mk hr0;clear hg hr0;go_enter Tryz.func42, Tryz.ntmps42;go_wp2_with (go_at_call 66; (with_reducible refine (zk1 w.heap.size s A0 _ l0 _ ?h1 ?h2 hl).mono ?_); (case h1 => exact heap_alloc_new w _); (case h2 => exact Kd.Yg HC.out _); rintro e w3 ⟨rfl, hb3⟩; have HB3 := zf.mk hb3; clear hb3)
 go_ret;exact ⟨rfl, ((Below.refl _ _).alloc (Nat.le_refl _) _).trans (HB3.out.mono (by simp))⟩
set_option maxHeartbeats 8000000 in
set_option maxRecDepth 100000 in
theorem zms (m : Nat) (hm : 0 < m) (hl : m ≤ 1000000) (w : World) :
  Calls Tryz.prog 68 #[.slice none 0 0, .int .i64 m] w fun e w' => ∃ v0_ : Value, e = .returned v0_ ∧ Kd.R Kd.string 9 w' w.heap.size (fun _ => True) v0_ [] ∧ Below w.heap.size w w' := by
 have b9 : Tryz.t9.bytes = 16 := by kernel_rfl
 have hns : Builtin.nextslicecap m 0 = m := by unfold Builtin.nextslicecap; rw [if_pos (by omega)]
 go_enter Tryz.func68, Tryz.ntmps68;go_wp2_with fail
 all_goals simp only [b9, hns] at *
 all_goals first | (exfalso; omega) | skip
 go_ret;have hc0 := grownCap_ge w m 0 9;have hc1 := grownCap_le_maxLen w m 0 9 (by unfold maxLen; omega);have hsz : (Builtin.zeroCells #[Value.string ⟨#[]⟩] m ++ Builtin.zeroCells #[Value.string ⟨#[]⟩] ((Question.appendCap m 0 9).cut (w.tape w.drawn (Question.appendCap m 0 9)) - m)).size = (Question.appendCap m 0 9).cut (w.tape w.drawn (Question.appendCap m 0 9)) * Kd.string.sz := by
  have hc2 : m ≤ (Question.appendCap m 0 9).cut (w.tape w.drawn (Question.appendCap m 0 9)) := hc0;rw [Array.size_append, size_zeroCells, size_zeroCells];show m * 1 + (_ - m) * 1 = _ * 1;omega
 exact ⟨_, rfl, ⟨fun _ _ => trivial, [], ⟨rfl, .inr ⟨_, _, _, rfl, Nat.le_refl _, heap_alloc_new w _, Nat.zero_le _, hc1, hsz, rfl⟩⟩, Reps.none _ _⟩, Yw ((Below.refl _ _).alloc (Nat.le_refl _) _)⟩
set_option maxHeartbeats 8000000 in
set_option maxRecDepth 100000 in
theorem zo1 (w : World) :
  Calls Tryz.prog 68 #[.slice none 0 0, .int .i64 0] w fun e w' => e = .returned (.slice none 0 0) ∧ w' = w := by
 go_enter Tryz.func68, Tryz.ntmps68;go_wp2
 go_ret;exact ⟨rfl, rfl⟩
theorem zqf (m : Nat) (hl : m ≤ 1000000) (w : World) :
  Calls Tryz.prog 68 #[.slice none 0 0, .int .i64 m] w fun e w' => ∃ v0_ : Value, e = .returned v0_ ∧ Kd.R Kd.string 9 w' w.heap.size (fun _ => True) v0_ [] ∧ Below w.heap.size w w' := by
 rcases Nat.eq_zero_or_pos m with rfl | h
 ·
  exact (zo1 w).mono fun e w' ⟨he, hb⟩ => ⟨_, he, Kd.zfg _ _ _ _ _, hb ▸ Below.refl _ _⟩
 ·
  exact zms m h hl w
theorem zqg (z : Int) (h0 : 0 ≤ z) (hl : z ≤ 1000000) (w : World) :
  Calls Tryz.prog 68 #[.slice none 0 0, .int .i64 z] w fun e w' => ∃ v0_ : Value, e = .returned v0_ ∧ Kd.R Kd.string 9 w' w.heap.size (fun _ => True) v0_ [] ∧ Below w.heap.size w w' := by
 obtain ⟨m, rfl⟩ := Int.eq_ofNat_of_zero_le h0;exact zqf m (by omega) w
set_option maxHeartbeats 8000000 in
set_option maxRecDepth 100000 in
theorem zhp (gs : Nat) (A0 A1 : Option Addr) (c0 c1 : Nat) (l0 l1 : List ByteArray) (w : World) (hb : w.heap[gs]? = some (.cells #[.slice A0 l0.length c0, .slice A1 l1.length c1] 71 (0, 0))) (hr0 : Kd.C Kd.string w A0 l0.length l0) (hr1 : Kd.C Kd.string w A1 l1.length l1) (h0 : l0.length ≤ 100000) (h1 : l1.length ≤ 100000) :
  Calls Tryz.prog 44 #[.slice (some ⟨gs, 0, none⟩) 2 2] w fun e w' => ∃ v0_ : Value, e = .returned v0_ ∧ Kd.R Kd.string 9 w' w.heap.size (fun _ => True) v0_ (l0 ++ l1) ∧ Below w.heap.size w w' := by
 have infoE : (Tryz.prog.info? 9).map (fun i => (i.zero, i.size, i.bytes)) = some (some (.string ⟨#[]⟩), 1, 16) := by kernel_rfl
 have HC0 := zf.mk hr0;have HC1 := zf.mk hr1;have HBK := zf.mk hb;have d0 : w.cell? ⟨gs, 0, none⟩ = some (.slice A0 l0.length c0) := yc hb 0;have d1 : w.cell? ⟨gs, 1, none⟩ = some (.slice A1 l1.length c1) := yc hb 1;clear hr0 hr1 hb;go_enter Tryz.func44, Tryz.ntmps44;go_wp2_with fail
 refine wp_loop_rounds 3 ?_;rw [rounds_succ];go_wp2_with fail
 rw [rounds_succ];go_wp2_with fail
 rw [rounds_succ];go_wp2_with (go_at_call 68; (with_reducible refine (zqg _ ?z0 ?z1 _).mono ?_); (case z0 => omega); (case z1 => omega); rintro e w3 ⟨v3, rfl, ho3, hb3⟩; have HO3 := zf.mk ho3; have HB3 := zf.mk hb3; clear ho3 hb3)
 have d0 : w3.cell? ⟨gs, 0, none⟩ = some (.slice A0 l0.length c0) := Xa HB3.out d0;have d1 : w3.cell? ⟨gs, 1, none⟩ = some (.slice A1 l1.length c1) := Xa HB3.out d1;refine wp_loop_rounds 3 ?_;rw [rounds_succ];go_wp2_with ((with_reducible refine zaq (b := .append) (xs := #[.tmp 31, .tmp 32]) rfl ?_); at_builtin; refine Kd.zac Kd.string (w0 := w) w.heap.size rfl (.tmp 31) (.tmp 32) 71 9 (.string ⟨#[]⟩) 16 rfl Tryz.underlying71 infoE rfl (by decide) (by omega) v3 ([] : List ByteArray) l0 _ _ _ (fun _ => True) (fun _ => False) rfl rfl ?aO ?aR (fun _ _ h => h) (fun _ h => h.elim) ?aF ?aB ?aS ?aL ?_; (case aR => exact Kd.Zq HC0.out HB3.out); (case aB => exact HB3.out); (case aF => exact (fun _ _ => trivial)); (case aO => exact HO3.out); (case aS => exact HB3.out.size); (case aL => simp; omega); intro v4 w4 ho hb hg hat; have HO4 := zf.mk ho; have HB4 := zf.mk hb; clear ho hb hg hat)
 have d1 : w4.cell? ⟨gs, 1, none⟩ = some (.slice A1 l1.length c1) := by
  have := HBK.out;exact yc (zy HBK.out HB4.out) 1
 rw [rounds_succ];go_wp2_with ((with_reducible refine zaq (b := .append) (xs := #[.tmp 31, .tmp 32]) rfl ?_); at_builtin; refine Kd.zac Kd.string (w0 := w) w.heap.size rfl (.tmp 31) (.tmp 32) 71 9 (.string ⟨#[]⟩) 16 rfl Tryz.underlying71 infoE rfl (by decide) (by omega) v4 ([] ++ l0) l1 _ _ _ (fun _ => True) (fun _ => False) rfl rfl ?aO ?aR (fun _ _ h => h) (fun _ h => h.elim) ?aF ?aB ?aS ?aL ?_; (case aR => exact Kd.Zq HC1.out HB4.out); (case aB => exact HB4.out); (case aF => exact (fun _ _ => trivial)); (case aO => exact HO4.out); (case aS => exact HB4.out.size); (case aL => simp; omega); intro v5 w5 ho hb hg hat; have HO5 := zf.mk ho; have HB5 := zf.mk hb; clear ho hb hg hat)
 rw [rounds_succ];go_wp2_with fail
 go_ret;exact ⟨_, rfl, HO5.out, HB5.out⟩
end Go.Proofs.YtfcjpkkglffnmaaGreatDoor.H
