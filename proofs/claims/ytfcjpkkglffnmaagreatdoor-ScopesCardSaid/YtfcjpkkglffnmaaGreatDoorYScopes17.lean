/- Several texts in one: contracts of functions of the program, and what they lean on. In part written by a program of this session over the kit's print, in part by hand. -/
import Derived.Test.YtfcjpkkglffnmaaGreatDoorYScopes12
import Derived.Test.YtfcjpkkglffnmaaGreatDoorYScopes14
import Derived.Test.YtfcjpkkglffnmaaGreatDoorYScopes16
set_option linter.unusedVariables false
set_option linter.unusedSimpArgs false
set_option maxHeartbeats 1000000
namespace Go.Proofs.YtfcjpkkglffnmaaGreatDoor.H
open Go.RowKit Go.Proofs.YtfcjpkkglffnmaaGreatDoorW.PrintWords Go.Proofs.YtfcjpkkglffnmaaGreatDoorW.PrintLast Go.Proofs.YtfcjpkkglffnmaaGreatDoorW.PrintMore
theorem row_no (os : List S42) (l : List S44) (R : Bool) (K1 i : Nat) (h4 : os.length ≤ 4) (hi : i < os.length) (hR : ∀ K, K1 ≤ K → yl.l0 K ((i + 1 : Nat) : Int) os l = some R) : ∀ (d j k : Nat), i - j = d → j ≤ i → d + 1 + K1 ≤ k → (∀ j', j ≤ j' → j' < i → ¬ nmOf os i = nmOf os j') → yl.l1 k (i : Int) (j : Int) os l = some R := by
 intro d;induction d with
 | zero =>
  intro j k hd hj hk hn;obtain ⟨k, rfl⟩ : ∃ m, k = m + 1 := ⟨k - 1, by omega⟩;rw [yl.l1, if_neg (by omega), show wrap64 ((i : Int) + 1) = ((i + 1 : Nat) : Int) from by unfold wrap64; omega];exact hR k (by omega)
 | succ d ih =>
  intro j k hd hj hk hn;obtain ⟨k, rfl⟩ : ∃ m, k = m + 1 := ⟨k - 1, by omega⟩;have hne : ¬ (Zp os (i : Int)).f0.toList = (Zp os (j : Int)).f0.toList := hn j (Nat.le_refl _) (by omega);rw [yl.l1, if_pos (by omega), if_pos (by omega), if_pos (by omega), if_pos (by omega), if_pos (by omega), if_neg hne, show wrap64 ((j : Int) + 1) = ((j + 1 : Nat) : Int) from by unfold wrap64; omega];exact ih (j + 1) k (by omega) (by omega) (by omega) (fun j' h1 h2 => hn j' (by omega) h2)
theorem row_yes (os : List S42) (l : List S44) (i : Nat) (h4 : os.length ≤ 4) (hi : i < os.length) : ∀ (d j k : Nat), i - j = d → j ≤ i → d + 1 ≤ k → (∃ j', j ≤ j' ∧ j' < i ∧ nmOf os i = nmOf os j') → yl.l1 k (i : Int) (j : Int) os l = some false := by
 intro d;induction d with
 | zero =>
  rintro j k hd hj hk ⟨j', h1, h2, _⟩;omega
 | succ d ih =>
  rintro j k hd hj hk ⟨j', h1, h2, h3⟩;obtain ⟨k, rfl⟩ : ∃ m, k = m + 1 := ⟨k - 1, by omega⟩;rw [yl.l1, if_pos (by omega), if_pos (by omega), if_pos (by omega), if_pos (by omega), if_pos (by omega)];by_cases he : (Zp os (i : Int)).f0.toList = (Zp os (j : Int)).f0.toList
  ·
   rw [if_pos he]
  ·
   rw [if_neg he, show wrap64 ((j : Int) + 1) = ((j + 1 : Nat) : Int) from by unfold wrap64; omega];have hjj : j' ≠ j := fun e => he (by rw [← e]; exact h3)
   exact ih (j + 1) k (by omega) (by omega) (by omega) ⟨j', by omega, h2, h3⟩
theorem rows_all (os : List S42) (l : List S44) (v : Bool) (K0 : Nat) (h4 : os.length ≤ 4) (hl : l.length ≤ 512) (hw : ∀ k, K0 ≤ k → yt.f k os l (wrap64 ((l.length : Int) - 1)) 0 = some v) : ∀ (d i : Nat), os.length - i = d → i ≤ os.length → ∃ R, (∀ k, K0 + 10 * (d + 1) ≤ k → yl.l0 k (i : Int) os l = some R) ∧
  ((∃ i' j, i ≤ i' ∧ i' < os.length ∧ j < i' ∧ nmOf os i' = nmOf os j) → R = false) ∧ ((∀ i' j, i ≤ i' → i' < os.length → j < i' → ¬ nmOf os i' = nmOf os j) → R = v) := by
 intro d;induction d with
 | zero =>
  intro i hd hi;refine ⟨v, fun k hk => ?_, fun ⟨i', j, h1, h2, _⟩ => by omega, fun _ => rfl⟩;obtain ⟨k, rfl⟩ : ∃ m, k = m + 1 := ⟨k - 1, by omega⟩;rw [yl.l0, if_neg (by omega), hw k (by omega)];rfl
 | succ d ih =>
  intro i hd hi;have hlt : i < os.length := by omega
  obtain ⟨R, r1, r2, r3⟩ := ih (i + 1) (by omega) (by omega);have step : ∀ k, 1 ≤ k → yl.l0 k (i : Int) os l = yl.l1 (k - 1) (i : Int) 0 os l := fun k hk => by
   obtain ⟨k, rfl⟩ : ∃ m, k = m + 1 := ⟨k - 1, by omega⟩;rw [yl.l0, if_pos (by omega)];rfl
  by_cases hm : ∃ j', 0 ≤ j' ∧ j' < i ∧ nmOf os i = nmOf os j'
  ·
   refine ⟨false, fun k hk => ?_, fun _ => rfl, fun h => ?_⟩
   ·
    rw [step k (by omega)];exact row_yes os l i h4 hlt i 0 (k - 1) rfl (Nat.zero_le _) (by omega) hm
   ·
    obtain ⟨j', _, h1, h2⟩ := hm;exact absurd h2 (h i j' (Nat.le_refl _) hlt h1)
  ·
   have hn : ∀ j', 0 ≤ j' → j' < i → ¬ nmOf os i = nmOf os j' := fun j' h1 h2 h3 => hm ⟨j', h1, h2, h3⟩
   refine ⟨R, fun k hk => ?_, fun ⟨i', j, h1, h2, h3, h5⟩ => ?_, fun h => r3 (fun i' j h1 => h i' j (by omega))⟩
   ·
    rw [step k (by omega)];exact row_no os l R (K0 + 10 * (d + 1)) i h4 hlt r1 i 0 (k - 1) rfl (Nat.zero_le _) (by omega) hn
   ·
    by_cases e : i' = i
    ·
     subst e;exact absurd h5 (hn j (Nat.zero_le _) h3)
    ·
     exact r2 ⟨i', j, by omega, h2, h3, h5⟩
theorem zty (os : List S42) (l : List S44) (k : Nat) (hk : 9000 ≤ k) : ∃ b, Ya.f k os l = some b ∧ yl.f k os l = some b := by
 rw [may_Q k (by omega), mayQ];obtain ⟨m, rfl⟩ : ∃ m, k = m + 1 := ⟨k - 1, by omega⟩;unfold yl.f;rw [znn os (m + 1) (by omega), Option.bind_some];cases ho : opsMayS os
 ·
  exact ⟨false, rfl, by rw [if_neg (by simp), yl.j0, if_pos rfl]⟩
 ·
  obtain ⟨h4, hsz⟩ := zhb os ho;rw [if_pos (rfl : true = true), if_pos (show os.length ≤ 4 ∧ (os.all fun o => decide (o.f0.size ≤ 1000)) = true from ⟨h4, hsz⟩), if_pos (rfl : true = true), zjc l false (m + 1) (by omega), Option.bind_some];cases hs : shapedS l false
  ·
   refine ⟨false, ?_, ?_⟩
   ·
    split <;> rfl
   ·
    show yl.j0 (m + 1) true os l = _;rw [yl.j0, if_pos rfl]
  ·
   obtain ⟨h1, h512, hall, hb⟩ := zfa l false hs;have hb' : beginS l (((l.length - 1 : Nat)) : Int) = ((0 : Nat) : Int) := by rw [show (((l.length - 1 : Nat)) : Int) = (l.length : Int) - 1 by omega, hb]; rfl
   obtain ⟨v, v1, v2⟩ := zq4 os l hall h512 (l.length - 1) (l.length - 1) 0 0 rfl (by omega) hb' (Int.le_refl _) (by omega);rw [show (((l.length - 1 : Nat)) : Int) = (l.length : Int) - 1 by omega] at v1 v2;have hwr : wrap64 ((l.length : Int) - 1) = (l.length : Int) - 1 := by unfold wrap64; omega
   obtain ⟨R, r1, r2, r3⟩ := rows_all os l v 2000 h4 h512 (fun q hq => by rw [hwr]; exact v2 q (by omega)) os.length 0 rfl (Nat.zero_le _);have hr : yl.j0 (m + 1) (!true) os l = some R := by
    rw [yl.j0, if_neg (by simp)];exact r1 m (by omega)
   refine ⟨R, ?_, hr⟩;rw [← zno];cases hd : dupB os
   ·
    rw [if_neg (by simp), if_pos rfl, if_pos h512, v1 (m + 1) (by omega)];have hno : ∀ i' j, 0 ≤ i' → i' < os.length → j < i' → ¬ nmOf os i' = nmOf os j := fun i' j _ h2 h3 h5 => by
     have := zma h2 h3 h5;rw [hd] at this;cases this
    rw [r3 hno]
   ·
    rw [if_pos rfl];have hex : ∃ i' j, 0 ≤ i' ∧ i' < os.length ∧ j < i' ∧ nmOf os i' = nmOf os j := by
     apply Classical.byContradiction;intro hno;have := zph (l := os) (fun i j hi hj he => hno ⟨i, j, Nat.zero_le _, hi, hj, he⟩);rw [hd] at this;cases this
    rw [r2 hex]
theorem zra : ∀ (d : Nat) (x : List S44) (i k : Nat), x.length - i = d → x.length ≤ 1000000 → d < k → ∃ y, Yq.l0 k x (i : Int) = some y := by
 intro d;induction d with
 | zero =>
  intro x i k hd hl hk;obtain ⟨k, rfl⟩ : ∃ m, k = m + 1 := ⟨k - 1, by omega⟩;rw [Yq.l0, if_neg (by omega)];exact ⟨_, rfl⟩
 | succ d ih =>
  intro x i k hd hl hk;obtain ⟨k, rfl⟩ : ∃ m, k = m + 1 := ⟨k - 1, by omega⟩;rw [Yq.l0, if_pos (by omega), if_pos (by omega), show wrap64 ((i : Int) + 1) = ((i + 1 : Nat) : Int) from by unfold wrap64; omega];exact ih _ (i + 1) k (by simp; omega) (by simp; omega) (by omega)
theorem zrb : ∀ (d : Nat) (x : List S42) (i k : Nat), x.length - i = d → x.length ≤ 1000000 → d < k → ∃ y, Yu.l0 k x (i : Int) = some y := by
 intro d;induction d with
 | zero =>
  intro x i k hd hl hk;obtain ⟨k, rfl⟩ : ∃ m, k = m + 1 := ⟨k - 1, by omega⟩;rw [Yu.l0, if_neg (by omega)];exact ⟨_, rfl⟩
 | succ d ih =>
  intro x i k hd hl hk;obtain ⟨k, rfl⟩ : ∃ m, k = m + 1 := ⟨k - 1, by omega⟩;rw [Yu.l0, if_pos (by omega), if_pos (by omega), show wrap64 ((i : Int) + 1) = ((i + 1 : Nat) : Int) from by unfold wrap64; omega];exact ih _ (i + 1) k (by simp; omega) (by simp; omega) (by omega)
theorem zm5 (os : List S42) (l : List S44) (k : Nat) (hk : 2200 ≤ k) (r : List S42 × List S44 × Int × Int) (h : Zy.f k os l = some r) : r.1.length ≤ 4 ∧ r.2.1.length ≤ 512 := by
 obtain ⟨r1, r2, r3, r4, e, hc⟩ := zo3 os l k hk;rw [h] at e;obtain rfl := Option.some.inj e;rcases hc with ⟨_, _, rfl, rfl, _⟩ | ⟨_, _, rfl, rfl, _⟩ | ⟨ht, _, _, rfl, _, hlm, _, _⟩
 ·
  simp
 ·
  simp
 ·
  have ht2 := ht;simp only [treeMayS, Bool.and_eq_true] at ht2;obtain ⟨h4, _⟩ := zhb r1 ht2.1;obtain ⟨_, h512, _, _⟩ := zfa l true ht2.2;exact ⟨h4, by show r2.length ≤ 512; omega⟩
theorem zrd (os : List S42) (ns : List S44) (os1 : List S42) (ns1 : List S44) (z0 : os.length * 32 ≤ 140737488351232) (z1 : ns.length * 112 ≤ 140737488351232) (z2 : os1.length * 32 ≤ 140737488351232) (z3 : ns1.length * 112 ≤ 140737488351232) : ∃ k, yw.f k os ns os1 ns1 = some true := by
 obtain ⟨K, hK⟩ : ∃ K, 9000 + os.length + ns.length ≤ K := ⟨_, Nat.le_refl _⟩;refine ⟨K + 1, ?_⟩;obtain ⟨r, hr0, hr1⟩ := zq3 os ns (K + 1) (by omega);obtain ⟨a1, a2⟩ := zm5 os ns (K + 1) (by omega) r hr0;obtain ⟨r1, r2, r3, r4⟩ := r;have a1 : r1.length ≤ 4 := a1;have a2 : r2.length ≤ 512 := a2;obtain ⟨m, hm0, hm1⟩ := zty r1 r2 (K + 1) (by omega);obtain ⟨q, hq0, hq1⟩ := zty os1 ns1 (K + 1) (by omega);obtain ⟨y0, hy0⟩ := zrb r1.length r1 0 K rfl (by omega) (by omega);obtain ⟨y1, hy1⟩ := zra r2.length r2 0 K rfl (by omega) (by omega);have hw : Yz.f K = some true := zfc Yz.mono (by omega : 1300 ≤ K) Yz.is;have hS : Xg.f (K + 1) r1 r2 r1 r2 = some true := by
  unfold Xg.f;rw [zhw r1 (K + 1) (by omega) (by omega), Option.bind_some, if_pos rfl, zlp r2 r2 (K + 1) (by omega) (by omega), (zfo r2 r2).2 rfl];rfl
 have hsp : Xy.f K r1 r2 = some (y0, y1) := by
  unfold Xy.f Yu.f Yq.f;rw [show (0 : Int) = ((0 : Nat) : Int) from rfl, hy0, Option.bind_some, hy1, Option.bind_some]
 have hend : yw.j0 (K + 1) false os ns os ns r1 r2 = some true := by
  rw [yw.j0, if_neg (by simp), hsp, Option.bind_some, zmj os ns K (by omega) (by omega) (by omega) (by omega), Option.bind_some, if_pos rfl, hw];rfl
 unfold yw.f;rw [zkd os ns (by omega) (by omega), Option.bind_some];dsimp only;rw [hr0, Option.bind_some, hr1, Option.bind_some];dsimp only;rw [hS, Option.bind_some, if_pos rfl, if_pos rfl];dsimp only [xw.f];rw [Option.bind_some, if_pos rfl, hm0, Option.bind_some, hm1, Option.bind_some, if_neg (by simp), hq0, Option.bind_some, hq1, Option.bind_some, bne_self_eq_false];exact hend
end Go.Proofs.YtfcjpkkglffnmaaGreatDoor.H
