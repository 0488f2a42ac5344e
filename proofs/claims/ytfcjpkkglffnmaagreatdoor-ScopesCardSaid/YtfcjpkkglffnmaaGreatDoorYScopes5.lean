/- Several texts in one: contracts of functions of the program, and what they lean on. In part written by a program of this session over the kit's print, in part by hand. -/
import Derived.Test.YtfcjpkkglffnmaaGreatDoorYScopes2
import Derived.Test.YtfcjpkkglffnmaaGreatDoorYScopes3
import Derived.Test.YtfcjpkkglffnmaaGreatDoorYScopes4
import Derived.ChangeAlike
import Derived.Deep.RegionHeld3
import Derived.RegionTactic
import Derived.IntWalk
namespace Go.Proofs.YtfcjpkkglffnmaaGreatDoor.H
open Go.RowKit Go.Proofs.YtfcjpkkglffnmaaGreatDoorW.PrintWords Go.Proofs.YtfcjpkkglffnmaaGreatDoorW.PrintLast Go.Proofs.YtfcjpkkglffnmaaGreatDoorW.PrintMore
attribute [local go_sem] Vz V3 za0 za1 Vd Ve V4 V5
set_option linter.unusedVariables false
set_option linter.unusedSimpArgs false
def nodeCells (x : S44) : List Value := [.int .i64 x.f0, .int .i64 x.f1, .int .i64 x.f2, .int .i64 x.f3, .int .i64 x.f4, .string x.f5, .string x.f6, .string x.f7, .string x.f8, .int .i64 x.f9]
theorem zbw {W : World} {base g n cap : Nat} {ok : Nat → Prop} {xs : List S44} (h : Kd.R k44 44 W base ok (.slice (some ⟨g, 0, none⟩) n cap) xs) (i : Nat) (hi : i < n) (x x' : S44) (hx : xs[i]? = some x) (j : Nat) (u : Value) (hj : j < 10)
  (hl : (nodeCells x).take j ++ [u] ++ (nodeCells x).drop (j + 1) = nodeCells x') : Kd.R k44 44 (W.setCell ⟨g, i * 10 + j, none⟩ u) base ok (.slice (some ⟨g, 0, none⟩) n cap) (xs.set i x') := by
 obtain ⟨c, hcl, hM, hcc, hff⟩ := Kd.zjg h z44 i (by omega) (by omega);rw [Int.toNat_natCast, List.getD_eq_getElem?_getD, hx] at hM;rw [Int.toNat_natCast] at hcc;obtain rfl := zg9 hM;have HS := (Kd.R_seg h (i := (i : Int)) (by omega) (by omega) (c := nodeCells x) (seg := [u]) (j := j) (x' := x') (okp := fun _ => False) rfl
  (by rw [Int.toNat_natCast]; exact hcc) (by show j + 1 ≤ 10; omega) (by rw [show ([u]).length = 1 from rfl, hl]; exact zc2 _ _ _ _) (fun _ h => h.elim)).1
 rw [Int.toNat_natCast] at HS;exact HS
theorem zjm {W : World} {base g n cap : Nat} {ok : Nat → Prop} {xs : List S44} (h : Kd.R k44 44 W base ok (.slice (some ⟨g, 0, none⟩) n cap) xs) (i : Nat) (hi : i < n) (x : S44) (hx : xs[i]? = some x) :
  (∀ j u, (nodeCells x)[j]? = some u → W.cell? ⟨g, i * 10 + j, none⟩ = some u) ∧ ∀ j, W.frozen? ⟨g, i * 10 + j, none⟩ = false := by
 obtain ⟨c, hcl, hM, hcc, hff⟩ := Kd.zjg h z44 i (by omega) (by omega);rw [Int.toNat_natCast, List.getD_eq_getElem?_getD, hx] at hM;rw [Int.toNat_natCast] at hcc hff;obtain rfl := zg9 hM;exact ⟨hcc, hff⟩
def LowB (gn : Nat) (w W : World) : Prop := w.heap.size ≤ W.heap.size ∧ ∀ B, B ≤ gn → Below B w W
theorem LowB.refl (gn : Nat) (w : World) : LowB gn w w := ⟨Nat.le_refl _, fun _ _ => Below.refl _ _⟩
theorem LowB.below {gn : Nat} {w W W2 : World} (h : LowB gn w W) (hg : gn < w.heap.size) (hb : Below W.heap.size W W2) : LowB gn w W2 := ⟨Nat.le_trans h.1 hb.size, fun B hB => (h.2 B hB).trans (hb.mono (by have := h.1; omega))⟩
theorem LowB.alloc {gn : Nat} {w W : World} (h : LowB gn w W) (hg : gn < w.heap.size) (o : Obj) : LowB gn w (W.alloc o) := h.below hg (zh (Below.refl _ _) o)
theorem LowB.drewN {gn : Nat} {w W : World} (h : LowB gn w W) (hg : gn < w.heap.size) (m : Nat) : LowB gn w (W.drewN m) := h.below hg (zg (Below.refl _ _) m)
theorem LowB.set_ {gn : Nat} {w W : World} (h : LowB gn w W) (j : Nat) (u : Value) : LowB gn w (W.setCell ⟨gn, j, none⟩ u) := ⟨by have := h.1; simpa [World.setCell] using this, fun B hB => (h.2 B hB).setCell hB _⟩
theorem LowB.trans {gn : Nat} {w W W2 : World} (h : LowB gn w W) (k : LowB gn W W2) : LowB gn w W2 := ⟨Nat.le_trans h.1 k.1, fun B hB => (h.2 B hB).trans (k.2 B hB)⟩
def blankN (x : S44) (i : Int) : S44 := ⟨x.f0, x.f1, x.f2, x.f3, i, ⟨#[]⟩, ⟨#[]⟩, ⟨#[]⟩, ⟨#[]⟩, x.f9⟩
def goKids (g : List S44 → Int → List ByteArray → Option (Option (Int × Int) × List S44)) (x : S44) (env : List ByteArray) : List Int → Nat → List S44 → Option (Option (Int × Int) × List S44)
 | [], _, ns => some (none, ns)
 | c :: cs, i, ns => (g ns c (env ++ boundOf x i)).bind fun p => match p.1 with
  | some e => some (some e, p.2)
  | none => goKids g x env cs (i + 1) p.2
def rnode.f : Nat → List S42 → List S44 → Int → List ByteArray → Option (Option (Int × Int) × List S44)
 | 0, _, _, _, _ => none
 | k + 1, ops, ns, at_, env => if 0 ≤ at_ ∧ at_ < (ns.length : Int) ∧ env.length ≤ 2000 ∧ ops.length ≤ 4 then
   (let x := zl ns at_
   if x.f0 = 0 then ((xe.f k env).bind fun r => (xq.f k r x.f5).bind fun i =>
    if i < 0 then some (some (x.f9, 601), ns.set at_.toNat (blankN x i)) else some (none, ns.set at_.toNat (blankN x i)))
   else if x.f0 = 9 ∨ x.f0 = 10 then (if opIdx x.f5 ops 0 < 0 then some (some (x.f9, 602), ns.set at_.toNat (blankN x (opIdx x.f5 ops 0))) else goKids (rnode.f k ops) x env (kidsOf x) 0 (ns.set at_.toNat (blankN x (opIdx x.f5 ops 0))))
   else goKids (rnode.f k ops) x env (kidsOf x) 0 (ns.set at_.toNat (blankN x x.f4))) else none
def ErrV (w : World) (N : Nat) : Option (Int × Int) → Value → Prop
 | none, v => v = .nilIface
 | some (a, c), v => ∃ g, N ≤ g ∧ v = .iface 65 (.pointer (some ⟨g, 0, none⟩)) ∧ w.heap[g]? = some (.cells #[.int .i64 a, .iface 27 (.int .i64 c)] 70 (0, 0))
theorem zdh (x : S44) (i : Nat) : (boundOf x i).length ≤ 2 := by
 unfold boundOf;repeat' split
 all_goals simp
theorem zqh {w5 : World} {gn e n c : Nat} {A : Option Addr} {xs : List ByteArray} (h : Kd.R Kd.string e w5 n (fun _ => True) (.slice A xs.length c) xs) (hg : gn < n) : Kd.F Kd.string w5 (fun k => k ≠ gn) A xs.length xs :=
 Kd.zgj (Kd.R_F (Kd.zbd h)) (fun k hk => by have := hk.2.1; omega)
theorem zfj {W : World} {n : Nat} (h : W.heap.size = n) (o : Obj) : (W.alloc o).heap[n]? = some o := by subst h; exact heap_alloc_new W o
theorem zqi {w : World} {g gn cap an base : Nat} {Ao A : Option Addr} {co : Nat} {ops : List S42} {nn : Nat} {ns : List S44} {env : List ByteArray} {x : S44} (HG : w.heap[g]? = some (.cells #[.slice Ao ops.length co, .slice (some ⟨gn, 0, none⟩) nn cap] 46 (0, 0))) (HO : Kd.F k42 w (fun k => k ≠ gn) Ao ops.length ops) (HN : Kd.R k44 44 w base (fun k => k = gn) (.slice (some ⟨gn, 0, none⟩) nn cap) ns) (HE : Kd.F Kd.string w (fun k => k ≠ gn) A env.length env) (hnn : ns.length = nn) (hlt : an < ns.length) (hx : ns[an]? = some x) :
  ∃ w1, (((((w.setCell ⟨gn, an * 10 + 5, none⟩ (.string ⟨#[]⟩)).setCell ⟨gn, an * 10 + 6, none⟩ (.string ⟨#[]⟩)).setCell ⟨gn, an * 10 + 7, none⟩ (.string ⟨#[]⟩)).setCell ⟨gn, an * 10 + 8, none⟩ (.string ⟨#[]⟩)).alloc (.cells #[.int .i64 x.f0, .int .i64 x.f1, .int .i64 x.f2, .int .i64 x.f3, .int .i64 x.f4, .string x.f5, .string x.f6, .string x.f7, .string x.f8, .int .i64 x.f9] 44)) = w1 ∧
   w1.heap[g]? = some (.cells #[.slice Ao ops.length co, .slice (some ⟨gn, 0, none⟩) nn cap] 46 (0, 0)) ∧ Kd.F k42 w1 (fun k => k ≠ gn) Ao ops.length ops ∧ Kd.R k44 44 w1 base (fun k => k = gn) (.slice (some ⟨gn, 0, none⟩) nn cap) (ns.set an (blankN x x.f4)) ∧ Kd.F Kd.string w1 (fun k => k ≠ gn) A env.length env ∧
   Kept w w1 (fun k => k = gn) ∧ w1.heap[w.heap.size]? = some (.cells (nodeCells x).toArray 44 (0, 0)) ∧ w1.heap.size = w.heap.size + 1 ∧ LowB gn w w1 ∧ g ≠ gn := by
 have hgne : g ≠ gn := by
  intro e;have h1 := Kd.zfl HN gn rfl;obtain ⟨cells, h1⟩ := h1;rw [e, h1] at HG;injection HG with HG
  injection HG with _ HG
  exact absurd HG (by decide)
 have hgnlt : gn < w.heap.size := Kd.R_lt HN gn rfl;have step : ∀ (W : World) (j : Nat) (u : Value), (W.heap[g]? = some (.cells #[.slice Ao ops.length co, .slice (some ⟨gn, 0, none⟩) nn cap] 46 (0, 0)) ∧ Kd.F k42 W (fun k => k ≠ gn) Ao ops.length ops ∧ Kd.F Kd.string W (fun k => k ≠ gn) A env.length env ∧ Kept w W (fun k => k = gn) ∧ W.heap.size = w.heap.size) →
   ((W.setCell ⟨gn, an * 10 + j, none⟩ u).heap[g]? = some (.cells #[.slice Ao ops.length co, .slice (some ⟨gn, 0, none⟩) nn cap] 46 (0, 0)) ∧ Kd.F k42 (W.setCell ⟨gn, an * 10 + j, none⟩ u) (fun k => k ≠ gn) Ao ops.length ops ∧ Kd.F Kd.string (W.setCell ⟨gn, an * 10 + j, none⟩ u) (fun k => k ≠ gn) A env.length env ∧ Kept w (W.setCell ⟨gn, an * 10 + j, none⟩ u) (fun k => k = gn) ∧ (W.setCell ⟨gn, an * 10 + j, none⟩ u).heap.size = w.heap.size) := by
  rintro W j u ⟨h1, h2, h3, h4, h5⟩;exact ⟨Zx h1 hgne _, Kd.zia h2 (fun k hk => hk) _, Kd.zia h3 (fun k hk => hk) _, Kept.setCell h4 (.inl rfl) _, by simp [World.setCell, h5]⟩
 have s1 := step w 5 (.string ⟨#[]⟩) ⟨HG, HO, HE, Kept.refl _ _, rfl⟩;have s2 := step _ 6 (.string ⟨#[]⟩) s1;have s3 := step _ 7 (.string ⟨#[]⟩) s2;obtain ⟨h1, h2, h3, h4, h5⟩ := step _ 8 (.string ⟨#[]⟩) s3;have hget : ∀ (y : S44) , (ns.set an y)[an]? = some y := fun y => List.getElem?_set_self hlt
 have r1 := zbw HN an (hnn ▸ hlt) x (⟨x.f0, x.f1, x.f2, x.f3, x.f4, ⟨#[]⟩, x.f6, x.f7, x.f8, x.f9⟩ : S44) hx 5 (.string ⟨#[]⟩) (by omega) rfl;have r2 := zbw r1 an (hnn ▸ hlt) _ (⟨x.f0, x.f1, x.f2, x.f3, x.f4, ⟨#[]⟩, ⟨#[]⟩, x.f7, x.f8, x.f9⟩ : S44) (hget _) 6 (.string ⟨#[]⟩) (by omega) rfl;rw [List.set_set] at r2;have r3 := zbw r2 an (hnn ▸ hlt) _ (⟨x.f0, x.f1, x.f2, x.f3, x.f4, ⟨#[]⟩, ⟨#[]⟩, ⟨#[]⟩, x.f8, x.f9⟩ : S44) (hget _) 7 (.string ⟨#[]⟩) (by omega) rfl;rw [List.set_set] at r3;have r4 := zbw r3 an (hnn ▸ hlt) _ (blankN x x.f4) (hget _) 8 (.string ⟨#[]⟩) (by omega) rfl;rw [List.set_set] at r4;refine ⟨_, rfl, zo h1 _, Kd.zc1 h2 _, Kd.yf r4 _, Kd.zc1 h3 _, Kept.alloc h4 _, ?_, by simp [h5], LowB.alloc ((((LowB.refl gn w).set_ _ _).set_ _ _).set_ _ _ |>.set_ _ _) hgnlt _, hgne⟩;rw [← h5];exact heap_alloc_new _ _
set_option maxRecDepth 100000 in
set_option maxHeartbeats 16000000 in
theorem rnode.calls (k : Nat) : ∀ (g gn cap nn : Nat) (Ao : Option Addr) (co : Nat) (ops : List S42) (ns : List S44) (at_ : Int) (A : Option Addr) (c : Nat) (env : List ByteArray) (r : Option (Int × Int)) (ns' : List S44) (base : Nat) (w : World) (hnn : ns.length = nn)
  (hg : w.heap[g]? = some (.cells #[.slice Ao ops.length co, .slice (some ⟨gn, 0, none⟩) nn cap] 46 (0, 0))) (ho : Kd.F k42 w (fun k => k ≠ gn) Ao ops.length ops) (hn : Kd.R k44 44 w base (fun k => k = gn) (.slice (some ⟨gn, 0, none⟩) nn cap) ns) (he : Kd.F Kd.string w (fun k => k ≠ gn) A env.length env) (hc : env.length ≤ c)
  (h : rnode.f k ops ns at_ env = some (r, ns')),
  Calls Tryz.prog 21 #[.pointer (some ⟨g, 0, none⟩), .int .i64 at_, .slice A env.length c] w fun e w' => ∃ v, e = .returned v ∧ ErrV w' w.heap.size r v ∧ Kd.R k44 44 w' base (fun k => k = gn) (.slice (some ⟨gn, 0, none⟩) nn cap) ns' ∧ Kept w w' (fun k => k = gn) ∧ LowB gn w w' := by
 induction k with
 | zero => intro g gn cap nn Ao co ops ns at_ A c env r ns' base w hnn hg ho hn he hc h; exact absurd h (by simp [rnode.f])
 | succ k ih =>
  intro g gn cap nn Ao co ops ns at_ A c env r ns' base w hnn hg ho hn he hc h;rw [rnode.f] at h;by_cases h0 : 0 ≤ at_ ∧ at_ < (ns.length : Int) ∧ env.length ≤ 2000 ∧ ops.length ≤ 4
  ·
   rw [if_pos h0] at h;obtain ⟨ha, hb, h1000, h4⟩ := h0;obtain ⟨an, rfl⟩ := Int.eq_ofNat_of_zero_le ha;have hlt : an < ns.length := by omega
   have hlt2 : an < nn := by omega
   have hx : ns[an]? = some (zl ns an) := by
    rw [List.getElem?_eq_getElem hlt, zl, Int.toNat_natCast, List.getD_eq_getElem?_getD, List.getElem?_eq_getElem hlt];rfl
   simp only [] at h;rw [Int.toNat_natCast] at h;generalize zl ns an = x at *;have c0 : w.cell? ⟨g, 0, none⟩ = some (.slice Ao ops.length co) := yc hg 0;have c1 : w.cell? ⟨g, 1, none⟩ = some (.slice (some ⟨gn, 0, none⟩) nn cap) := yc hg 1;obtain ⟨hcell, hfroz⟩ := zjm hn an hlt2 x hx;have x0 : w.cell? ⟨gn, an * 10, none⟩ = some (.int .i64 x.f0) := hcell 0 _ rfl;have x1 : w.cell? ⟨gn, an * 10 + 1, none⟩ = some (.int .i64 x.f1) := hcell 1 _ rfl;have x2 : w.cell? ⟨gn, an * 10 + 2, none⟩ = some (.int .i64 x.f2) := hcell 2 _ rfl;have x3 : w.cell? ⟨gn, an * 10 + 3, none⟩ = some (.int .i64 x.f3) := hcell 3 _ rfl;have x4 : w.cell? ⟨gn, an * 10 + 4, none⟩ = some (.int .i64 x.f4) := hcell 4 _ rfl;have x5 : w.cell? ⟨gn, an * 10 + 5, none⟩ = some (.string x.f5) := hcell 5 _ rfl;have x6 : w.cell? ⟨gn, an * 10 + 6, none⟩ = some (.string x.f6) := hcell 6 _ rfl;have x7 : w.cell? ⟨gn, an * 10 + 7, none⟩ = some (.string x.f7) := hcell 7 _ rfl;have x8 : w.cell? ⟨gn, an * 10 + 8, none⟩ = some (.string x.f8) := hcell 8 _ rfl;have x9 : w.cell? ⟨gn, an * 10 + 9, none⟩ = some (.int .i64 x.f9) := hcell 9 _ rfl;have y5 : w.frozen? ⟨gn, an * 10 + 5, none⟩ = false := hfroz 5;have y6 : w.frozen? ⟨gn, an * 10 + 6, none⟩ = false := hfroz 6;have y7 : w.frozen? ⟨gn, an * 10 + 7, none⟩ = false := hfroz 7;have y8 : w.frozen? ⟨gn, an * 10 + 8, none⟩ = false := hfroz 8;have H := zf.mk h;have HX := zf.mk hx;have HNN := zf.mk hnn;have IH := zf.mk ih;have hgl := Yp hg;have hgnl : gn < w.heap.size := World.block_lt_of_cell? w ⟨gn, an * 10, none⟩ x0;obtain ⟨w1, hW1, g1, o1, n1, e1, k1, b1, z1, y1, hgne⟩ := zqi hg ho hn he hnn hlt hx;have HW1 := zf.mk hW1;have G1 := zf.mk g1;have O1 := zf.mk o1;have N1 := zf.mk n1;have E1 := zf.mk e1;have K1 := zf.mk k1;have Y1 := zf.mk y1;have B1 := zf.mk b1;have HC := zf.mk hc;clear hg ho hn he hx h hcell hfroz hW1 g1 o1 n1 e1 k1 b1 y1 hc hnn ih hb;by_cases k0 : x.f0 = 0
   ·
    skip
    have h := H.out;rw [if_pos k0] at h;replace h := Option.bind_eq_some_iff.mp h;obtain ⟨rv, hrv, h⟩ := h;replace h := Option.bind_eq_some_iff.mp h;obtain ⟨iv, hiv, h⟩ := h;have HRV := zf.mk hrv;have HIV := zf.mk hiv;have H2 := zf.mk h;have q0 : (x.f0 == 0) = true := beq_iff_eq.mpr k0;have f1000 : env.length < 8796093022208 := by omega
    have B5 : w1.cell? ⟨w.heap.size, 5, none⟩ = some (.string x.f5) := yc B1.out 5;have B9 : w1.cell? ⟨w.heap.size, 9, none⟩ = some (.int .i64 x.f9) := yc B1.out 9;clear h H k0 hrv hiv;go_enter Tryz.func21, Tryz.ntmps21;go_wp2_with fail
    rw [HW1.out];refine (zo0 A c env w1 (Kd.zgs E1.out) f1000).mono ?_;rintro e w2 ⟨v2, rfl, hr2, hb2⟩;have R2 := zf.mk hr2;have D2 := zf.mk hb2;clear hr2 hb2;go_wp2_with fail
    refine (xe.calls k (fun _ => True) v2 env rv w1 w2 D2.out R2.out HRV.out).mono ?_;rintro e w3 ⟨rfl, hr3, hb3, hk3⟩;obtain ⟨A3, c3, rfl, hle3, hC3⟩ := Kd.zde hr3;have C3 := zf.mk hC3;have L3 := zf.mk hle3;have N3 := zf.mk (Kd.Zg N1.out hb3);have G3 := zf.mk (zy G1.out hb3);have K3 := zf.mk (Kept.below K1.out hb3);have Y3 := zf.mk (LowB.below Y1.out hgnl hb3);have B53 : w3.cell? ⟨w.heap.size, 5, none⟩ = some (.string x.f5) := Xa hb3 B5;have B93 : w3.cell? ⟨w.heap.size, 9, none⟩ = some (.int .i64 x.f9) := Xa hb3 B9;have B03 := zf.mk (zy B1.out hb3);clear hr3 hb3 hk3 hC3 hle3;go_wp2_with fail
    refine (xq.calls k A3 c3 rv x.f5 iv w3 C3.out L3.out HIV.out).mono ?_;rintro e w4 ⟨rfl, ⟨nd, rfl⟩⟩;obtain ⟨hc4, hf4⟩ := zjm N3.out an hlt2 (blankN x x.f4) (by rw [List.getElem?_set_self hlt]);have f4 : (w3.drewN nd).cell? ⟨gn, an * 10 + 4, none⟩ = some (.int .i64 x.f4) := hc4 4 _ rfl;have g4 : (w3.drewN nd).frozen? ⟨gn, an * 10 + 4, none⟩ = false := hf4 4;have f93 : (w3.drewN nd).cell? ⟨w.heap.size, 9, none⟩ = some (.int .i64 x.f9) := B93;have hwgn : w.heap.size ≠ gn := by omega
    clear hc4 hf4;have HD3 := zf.mk (Kd.yj N3.out nd);have HRW := zf.mk (zbw HD3.out an hlt2 (blankN x x.f4) (blankN x iv) (by rw [List.getElem?_set_self hlt]) 4 (.int .i64 iv) (by omega) rfl);have HKW := zf.mk (Kept.setCell (Kept.drewN K3.out nd) (p := ⟨gn, an * 10 + 4, none⟩) (.inl rfl) (.int .i64 iv));have HYW := zf.mk (LowB.set_ (LowB.drewN Y3.out hgnl nd) (an * 10 + 4) (.int .i64 iv));have hsz : w.heap.size < w3.heap.size := World.block_lt_of_cell? w3 _ B93;have HSZ := zf.mk hsz;clear hsz HD3;by_cases hneg : iv < 0
    ·
     have h := H2.out;rw [if_pos hneg] at h;simp only [Option.some.injEq, Prod.mk.injEq] at h;obtain ⟨rfl, rfl⟩ := h;have b1 : decide (iv < 0) = true := decide_eq_true hneg;clear H2 hneg;go_wp2_with fail
     go_ret;refine ⟨_, rfl, ⟨w3.heap.size, Nat.le_of_lt HSZ.out, rfl, zfj (by simp [World.setCell]) _⟩, ?_, Kept.alloc HKW.out _, LowB.alloc HYW.out hgnl _⟩
     ·
      have h1 := HRW.out;rw [List.set_set] at h1;exact Kd.yf h1 _
    ·
     have h := H2.out;rw [if_neg hneg] at h;simp only [Option.some.injEq, Prod.mk.injEq] at h;obtain ⟨rfl, rfl⟩ := h;have b1 : decide (iv < 0) = false := decide_eq_false hneg;have d0 : ((w3.drewN nd).setCell ⟨gn, an * 10 + 4, none⟩ (.int .i64 iv)).cell? ⟨w.heap.size, 0, none⟩ = some (.int .i64 x.f0) := yc (Zx (w := w3.drewN nd) B03.out hwgn _) 0;have hk0 : kidsN x.f0 = 0 := by
      have : x.f0 = 0 := beq_iff_eq.mp q0;rw [this];rfl
     have HK0 := zf.mk hk0;clear H2 hneg hk0;go_wp2_with fail
     refine (zck w.heap.size 0 x.f0 _ d0).mono ?_;rintro e w5 ⟨rfl, hb5, _⟩;rw [HK0.out];have HB5 := zf.mk hb5;clear hb5 d0;show _;go_wp2_with fail
     refine wp_loop_rounds 1 ?_;rw [rounds_succ];go_wp2_with fail
     go_ret;have h1 := HRW.out;rw [List.set_set] at h1;exact ⟨_, rfl, rfl, Kd.Zg h1 HB5.out, Kept.below HKW.out HB5.out, LowB.below HYW.out hgnl HB5.out⟩
   ·
    by_cases k9 : x.f0 = 9 ∨ x.f0 = 10
    ·
     skip
     have h := H.out;rw [if_neg k0, if_pos k9] at h;have HQ := zf.mk h;have HK9 := zf.mk k9;have q0 : (x.f0 == 0) = false := beq_eq_false_iff_ne.mpr k0;have B5 : w1.cell? ⟨w.heap.size, 5, none⟩ = some (.string x.f5) := yc B1.out 5;have hq9 : (∃ W, (x.f0 == 9) = true ∧ W = w1) ∨ (∃ W, (x.f0 == 9) = false ∧ (x.f0 == 10) = true ∧ W = w1) := by
      by_cases e9 : x.f0 = 9
      ·
       exact .inl ⟨_, beq_iff_eq.mpr e9, rfl⟩
      ·
       exact .inr ⟨_, beq_eq_false_iff_ne.mpr e9, beq_iff_eq.mpr (k9.resolve_left e9), rfl⟩
     clear h H k0 HK9 k9;rcases hq9 with ⟨_, q9, _⟩ | ⟨_, q9, q10, _⟩
     all_goals
      go_enter Tryz.func21, Tryz.ntmps21;go_wp2_with fail
      rw [HW1.out];refine (op_calls g x.f5 Ao co ops _ w1 G1.out (Kd.zgs O1.out) h4).mono ?_;rintro e wo ⟨rfl, hbo⟩;obtain ⟨iv, hiv⟩ : ∃ iv, opIdx x.f5 ops 0 = iv := ⟨_, rfl⟩;rw [hiv];have HQ2 := HQ.out;rw [hiv] at HQ2;have HQ3 := zf.mk HQ2;have N3 := zf.mk (Kd.Zg N1.out hbo);have O3 := zf.mk (Kd.zbe O1.out hbo);have E3 := zf.mk (Kd.zbe E1.out hbo);have G3 := zf.mk (zy G1.out hbo);have K3 := zf.mk (Kept.below K1.out hbo);have Y3 := zf.mk (LowB.below Y1.out hgnl hbo);have B3 := zf.mk (zy B1.out hbo);have B93 : wo.cell? ⟨w.heap.size, 9, none⟩ = some (.int .i64 x.f9) := yc B3.out 9;obtain ⟨hc4, hf4⟩ := zjm N3.out an hlt2 (blankN x x.f4) (by rw [List.getElem?_set_self hlt]);have f4 : wo.cell? ⟨gn, an * 10 + 4, none⟩ = some (.int .i64 x.f4) := hc4 4 _ rfl;have g4 : wo.frozen? ⟨gn, an * 10 + 4, none⟩ = false := hf4 4;have hwgn : w.heap.size ≠ gn := by omega
      have hsz : w.heap.size < wo.heap.size := World.block_lt_of_cell? wo _ B93;have HSZ := zf.mk hsz;have HRW := zf.mk (zbw N3.out an hlt2 (blankN x x.f4) (blankN x iv) (by rw [List.getElem?_set_self hlt]) 4 (.int .i64 iv) (by omega) rfl);clear hc4 hf4 hiv HQ HQ2 hbo hsz N1 O1 E1 G1 K1 B1 HW1;by_cases hneg : iv < 0
      ·
       have h := HQ3.out;rw [if_pos hneg] at h;simp only [Option.some.injEq, Prod.mk.injEq] at h;obtain ⟨rfl, rfl⟩ := h;have b1 : decide (iv < 0) = true := decide_eq_true hneg;clear HQ3 hneg;go_wp2_with fail
       go_ret;refine ⟨_, rfl, ⟨wo.heap.size, Nat.le_of_lt HSZ.out, rfl, zfj (by simp [World.setCell]) _⟩, ?_, Kept.alloc (Kept.setCell K3.out (p := ⟨gn, an * 10 + 4, none⟩) (.inl rfl) (.int .i64 iv)) _, LowB.alloc (LowB.set_ Y3.out (an * 10 + 4) (.int .i64 iv)) hgnl _⟩;have h1 := HRW.out;rw [List.set_set] at h1;exact Kd.yf h1 _
      ·
       have h := HQ3.out;rw [if_neg hneg] at h;have H2 := zf.mk h;have b1 : decide (iv < 0) = false := decide_eq_false hneg;have h1 := HRW.out;rw [List.set_set] at h1;have N1 := zf.mk h1;have O1 := zf.mk (Kd.zia O3.out (p := ⟨gn, an * 10 + 4, none⟩) (fun _ h => h) (.int .i64 iv));have E1 := zf.mk (Kd.zia E3.out (p := ⟨gn, an * 10 + 4, none⟩) (fun _ h => h) (.int .i64 iv));have G1 := zf.mk (Zx (p := ⟨gn, an * 10 + 4, none⟩) G3.out hgne (.int .i64 iv));have K1 := zf.mk (Kept.setCell K3.out (p := ⟨gn, an * 10 + 4, none⟩) (.inl rfl) (.int .i64 iv));have Y1 := zf.mk (LowB.set_ Y3.out (an * 10 + 4) (.int .i64 iv));have B1 := zf.mk (Zx (p := ⟨gn, an * 10 + 4, none⟩) B3.out hwgn (.int .i64 iv));clear HQ3 hneg h h1 HRW N3 O3 E3 G3 K3 B3;go_wp2_with fail
       clear f4 g4 B93 B5;generalize wo.setCell ⟨gn, an * 10 + 4, none⟩ (.int .i64 iv) = w1 at *;have d0 : w1.cell? ⟨w.heap.size, 0, none⟩ = some (.int .i64 x.f0) := yc B1.out 0;refine (zck w.heap.size 0 x.f0 w1 d0).mono ?_;rintro e w2 ⟨rfl, hb2, hp2⟩;have hqw : w.heap.size < w1.heap.size := Yp B1.out;obtain ⟨q, hq⟩ : ∃ q, w1.heap.size = q := ⟨_, rfl⟩;rw [hq] at hp2 hqw ⊢;have N2 := zf.mk (Kd.Zg N1.out hb2);have O2 := zf.mk (Kd.zbe O1.out hb2);have E2 := zf.mk (Kd.zbe E1.out hb2);have G2 := zf.mk (zy G1.out hb2);have B2 := zf.mk (zy B1.out hb2);have K2 := zf.mk (Kept.below K1.out hb2);have Y2 := zf.mk (LowB.below Y1.out hgnl hb2);have P2 := zf.mk hp2;have hn3 := zcj x.f0;have hkl := zdg x;have HKL := zf.mk hkl;generalize hN : kidsN x.f0 = n3 at *;have hl2 := zbs w.heap.size (0 + 1) n3;have HL2 := zf.mk hl2;clear hb2 hp2 d0 hl2 hN hkl hq x0 x1 x2 x3 x4 x5 x6 x7 x8 x9 y5 y6 y7 y8 c0 c1;try clear q0
       try clear q9
       try clear q10
       try clear HW1
       go_wp2_with fail
       go_loopw [87] (fun v87 wr => ∃ (j : Nat) (nsj : List S44), v87 = .int .i64 j ∧ j ≤ n3 ∧ zf (goKids (rnode.f k ops) x env ((kidsOf x).drop j) j nsj = some (r, ns')) ∧ zf (nsj.length = nn) ∧ zf (wr.heap[g]? = some (.cells #[.slice Ao ops.length co, .slice (some ⟨gn, 0, none⟩) nn cap] 46 (0, 0))) ∧ zf (Kd.F k42 wr (fun k => k ≠ gn) Ao ops.length ops) ∧ zf (Kd.R k44 44 wr base (fun k => k = gn) (.slice (some ⟨gn, 0, none⟩) nn cap) nsj) ∧ zf (Kd.F Kd.string wr (fun k => k ≠ gn) A env.length env) ∧ zf (Kept w wr (fun k => k = gn)) ∧ zf (LowB gn w wr) ∧ zf (wr.heap[w.heap.size]? = some (.cells (nodeCells x).toArray 44 (0, 0))) ∧ zf (0 < n3 → wr.heap[q]? = some (.cells (fieldPtrs w.heap.size (0 + 1) n3).toArray 79 (0, 0)))) (fun v87 _ => n3 - (intOf v87).toNat)
       case atStart => exact ⟨0, _, rfl, Nat.zero_le _, H2, ⟨by rw [List.length_set]; exact HNN.out⟩, G2, O2, N2, E2, K2, Y2, B2, P2⟩
       case round =>
        obtain ⟨j, nsj, rfl, hj, HG, HNJ, GR, OR, NR, ER, KR, YR, BR, PR⟩ := hrel;clear H2 G2 O2 N2 E2 K2 B2 P2 G1 O1 N1 E1 K1 B1;by_cases hltj : j < n3
        ·
         have hpA : ptrOf q n3 = some ⟨q, 0, none⟩ := zdf (by omega);rw [hpA];have hlen : (kidsOf x).length = n3 := HKL.out;obtain ⟨c5, hc5⟩ : ∃ c5, (kidsOf x)[j]? = some c5 := ⟨_, List.getElem?_eq_getElem (by omega)⟩;have hdrop : (kidsOf x).drop j = c5 :: (kidsOf x).drop (j + 1) := (zha hc5).symm;have HCELL := zf.mk (node_cells x BR.out j c5 hc5);have d2 : wr.cell? ⟨q, j, none⟩ = some (.pointer (some ⟨w.heap.size, 1 + j, none⟩)) := by
          rw [yc (PR.out (by omega)) j, List.getElem?_toArray];exact zcc _ _ _ _ hltj
         have HG' := HG.out;rw [hdrop, goKids] at HG';replace HG' := Option.bind_eq_some_iff.mp HG';obtain ⟨⟨r1, ns1⟩, hr1, HG'⟩ := HG';have HR1 := zf.mk hr1;have HG2 := zf.mk HG';clear hdrop hlen HG hc5 hr1 HG' hpA;have hjlt : j < 3 := by omega
         have hbl := zdh x j;have S0 : wr.cell? ⟨w.heap.size, 1 + j, none⟩ = some (.int .i64 c5) := HCELL.out;have hwz : w.heap.size < wr.heap.size := Yp BR.out;go_wp2_with fail
         go_region_held3 (fun w' => w'.cell? ⟨w.heap.size, 1 + j, none⟩ = some (.int .i64 c5)) (first | go_keep | exact S0 | exact S3.out | exact S4.out | exact S5.out | exact S6.out)
          ((first
           | (go_at_call 45; refine (zks w.heap.size x j _ hjlt ?b0 ?b6 ?b7 ?b8).mono ?_; (case b0 => exact yc BR.out 0); (case b6 => exact yc BR.out 6); (case b7 => exact yc BR.out 7); (case b8 => exact yc BR.out 8); rintro e w3 ⟨A3, c3, rfl, hc3, hC3, hb3⟩; have hb3 : Below wr.heap.size wr w3 := (Yw (Below.refl _ _)).trans hb3; have N3 := zf.mk (Kd.Zg NR.out hb3); have O3 := zf.mk (Kd.zbe OR.out hb3); have E3 := zf.mk (Kd.zbe ER.out hb3); have G3 := zf.mk (zy GR.out hb3); have B3 := zf.mk (zy BR.out hb3); have P3 := zf.mk (fun h => zy (PR.out h) hb3); have K3 := zf.mk (Kept.below KR.out hb3); have Y3 := zf.mk (LowB.below YR.out hgnl hb3); have S3 := zf.mk (Xa hb3 HCELL.out); have C3 := zf.mk hC3; have Z3 := zf.mk hb3.size; clear hC3 hb3 hc3)
           | (go_at_call 44; refine (zhp w3.heap.size A A3 c c3 env (boundOf x j) _ ?g0 ?g1 ?g2 (by omega) (by omega)).mono ?_; (case g0 => exact heap_alloc_new w3 _); (case g1 => exact Kd.zgs (Kd.zc1 E3.out _)); (case g2 => exact Kd.Yg C3.out _); rintro e w5 ⟨v5, rfl, hr5, hb5⟩; obtain ⟨A5, c6, rfl, hle5, _⟩ := Kd.zde hr5; have E5 := zf.mk (zqh hr5 (gn := gn) (by have := Z3.out; simp; omega)); have hb5 : Below w3.heap.size w3 w5 := ((Below.refl _ _).alloc (Nat.le_refl _) _).trans (hb5.mono (by simp)); have N5 := zf.mk (Kd.Zg N3.out hb5); have O5 := zf.mk (Kd.zbe O3.out hb5); have F5 := zf.mk (Kd.zbe E3.out hb5); have G5 := zf.mk (zy G3.out hb5); have B5 := zf.mk (zy B3.out hb5); have P5 := zf.mk (fun h => zy (P3.out h) hb5); have K5 := zf.mk (Kept.below K3.out hb5); have Y5 := zf.mk (LowB.below Y3.out hgnl hb5); have S5 := zf.mk (Xa hb5 S3.out); have L5 := zf.mk hle5; clear hr5 hb5 hle5)
           | (go_at_call 21; rw [← List.length_append]; (with_reducible refine (IH.out g gn cap nn Ao co ops nsj c5 A5 c6 (env ++ boundOf x j) r1 ns1 base w5 HNJ.out G5.out O5.out N5.out E5.out L5.out HR1.out).mono ?_); rintro e w6 ⟨v6, rfl, he6, hn6, hk6, hy6⟩; have HY6 := zf.mk hy6; have S6 := zf.mk (cell_kept S5.out hk6 (by show w.heap.size ≠ gn; omega)); have HE6 := zf.mk he6; have N6 := zf.mk hn6; have HK6 := zf.mk hk6; clear he6 hn6 hk6 hy6)))
         have hwgn : w.heap.size ≠ gn := by omega
         have hwgn1 : q ≠ gn := by omega
         rcases r1 with _ | ⟨ea, ec⟩
         ·
          obtain rfl : v6 = .nilIface := HE6.out;have hg2 : goKids (rnode.f k ops) x env ((kidsOf x).drop (j + 1)) (j + 1) ns1 = some (r, ns') := HG2.out;have HG3 := zf.mk hg2;clear hg2 HG2 HE6 HR1;go_wp2_with fail
          go_roundw
          case rel => exact ⟨j + 1, ns1, by go_num, by omega, HG3, ⟨(Kd.Yn N6.out).1.symm⟩, ⟨zbb G5.out HK6.out hgne⟩, ⟨Kd.zoc O5.out HK6.out (fun _ h => h)⟩, ⟨N6.out⟩, ⟨Kd.zoc F5.out HK6.out (fun _ h => h)⟩, ⟨Kept.zh9 K5.out HK6.out (fun _ h => .inl h)⟩, ⟨LowB.trans Y5.out HY6.out⟩, ⟨zbb B5.out HK6.out hwgn⟩, ⟨fun h => zbb (P5.out h) HK6.out hwgn1⟩⟩
          case measure => simp [intOf]; omega
         ·
          obtain ⟨ge, hge, rfl, hbe⟩ : ∃ ge, w5.heap.size ≤ ge ∧ v6 = .iface 65 (.pointer (some ⟨ge, 0, none⟩)) ∧ w6.heap[ge]? = some (.cells #[.int .i64 ea, .iface 27 (.int .i64 ec)] 70 (0, 0)) := HE6.out;have hg2 : (some (some (ea, ec), ns1) : Option (Option (Int × Int) × List S44)) = some (r, ns') := HG2.out;simp only [Option.some.injEq, Prod.mk.injEq] at hg2;obtain ⟨rfl, rfl⟩ := hg2;have HBE := zf.mk hbe;clear HG2 HE6 HR1 hbe;go_wp2_with fail
          go_ret;exact ⟨_, rfl, ⟨ge, by have := K5.out.1; omega, rfl, HBE.out⟩, N6.out, Kept.zh9 K5.out HK6.out (fun _ h => .inl h), LowB.trans Y5.out HY6.out⟩
        ·
         have hin : j = n3 := by omega
         have HG' := HG.out;rw [List.drop_eq_nil_of_le (by rw [HKL.out]; omega), goKids] at HG';simp only [Option.some.injEq, Prod.mk.injEq] at HG';obtain ⟨rfl, rfl⟩ := HG';clear HG hin;go_wp2
         go_ret;exact ⟨_, rfl, rfl, NR.out, KR.out, YR.out⟩
    ·
     have h := H.out;rw [if_neg k0, if_neg k9] at h;have H2 := zf.mk h;have q0 : (x.f0 == 0) = false := beq_eq_false_iff_ne.mpr k0;have q9 : (x.f0 == 9) = false := beq_eq_false_iff_ne.mpr (fun e => k9 (.inl e));have q10 : (x.f0 == 10) = false := beq_eq_false_iff_ne.mpr (fun e => k9 (.inr e));clear h H k0 k9;go_enter Tryz.func21, Tryz.ntmps21;go_wp2_with fail
     rw [HW1.out];have d0 : w1.cell? ⟨w.heap.size, 0, none⟩ = some (.int .i64 x.f0) := yc B1.out 0;refine (zck w.heap.size 0 x.f0 w1 d0).mono ?_;rintro e w2 ⟨rfl, hb2, hp2⟩;have hqw : w.heap.size < w1.heap.size := Yp B1.out;obtain ⟨q, hq⟩ : ∃ q, w1.heap.size = q := ⟨_, rfl⟩;rw [hq] at hp2 hqw ⊢;have N2 := zf.mk (Kd.Zg N1.out hb2);have O2 := zf.mk (Kd.zbe O1.out hb2);have E2 := zf.mk (Kd.zbe E1.out hb2);have G2 := zf.mk (zy G1.out hb2);have B2 := zf.mk (zy B1.out hb2);have K2 := zf.mk (Kept.below K1.out hb2);have Y2 := zf.mk (LowB.below Y1.out hgnl hb2);have P2 := zf.mk hp2;have hn3 := zcj x.f0;have hkl := zdg x;have HKL := zf.mk hkl;generalize hN : kidsN x.f0 = n3 at *;have hl2 := zbs w.heap.size (0 + 1) n3;have HL2 := zf.mk hl2;clear hb2 hp2 d0 hl2 hN hkl hq x0 x1 x2 x3 x4 x5 x6 x7 x8 x9 y5 y6 y7 y8 c0 c1;try clear q0
     try clear q9
     try clear q10
     try clear HW1
     go_wp2_with fail
     go_loopw [87] (fun v87 wr => ∃ (j : Nat) (nsj : List S44), v87 = .int .i64 j ∧ j ≤ n3 ∧ zf (goKids (rnode.f k ops) x env ((kidsOf x).drop j) j nsj = some (r, ns')) ∧ zf (nsj.length = nn) ∧ zf (wr.heap[g]? = some (.cells #[.slice Ao ops.length co, .slice (some ⟨gn, 0, none⟩) nn cap] 46 (0, 0))) ∧ zf (Kd.F k42 wr (fun k => k ≠ gn) Ao ops.length ops) ∧ zf (Kd.R k44 44 wr base (fun k => k = gn) (.slice (some ⟨gn, 0, none⟩) nn cap) nsj) ∧ zf (Kd.F Kd.string wr (fun k => k ≠ gn) A env.length env) ∧ zf (Kept w wr (fun k => k = gn)) ∧ zf (LowB gn w wr) ∧ zf (wr.heap[w.heap.size]? = some (.cells (nodeCells x).toArray 44 (0, 0))) ∧ zf (0 < n3 → wr.heap[q]? = some (.cells (fieldPtrs w.heap.size (0 + 1) n3).toArray 79 (0, 0)))) (fun v87 _ => n3 - (intOf v87).toNat)
     case atStart => exact ⟨0, _, rfl, Nat.zero_le _, H2, ⟨by rw [List.length_set]; exact HNN.out⟩, G2, O2, N2, E2, K2, Y2, B2, P2⟩
     case round =>
      obtain ⟨j, nsj, rfl, hj, HG, HNJ, GR, OR, NR, ER, KR, YR, BR, PR⟩ := hrel;clear H2 G2 O2 N2 E2 K2 B2 P2 G1 O1 N1 E1 K1 B1;by_cases hltj : j < n3
      ·
       have hpA : ptrOf q n3 = some ⟨q, 0, none⟩ := zdf (by omega);rw [hpA];have hlen : (kidsOf x).length = n3 := HKL.out;obtain ⟨c5, hc5⟩ : ∃ c5, (kidsOf x)[j]? = some c5 := ⟨_, List.getElem?_eq_getElem (by omega)⟩;have hdrop : (kidsOf x).drop j = c5 :: (kidsOf x).drop (j + 1) := (zha hc5).symm;have HCELL := zf.mk (node_cells x BR.out j c5 hc5);have d2 : wr.cell? ⟨q, j, none⟩ = some (.pointer (some ⟨w.heap.size, 1 + j, none⟩)) := by
        rw [yc (PR.out (by omega)) j, List.getElem?_toArray];exact zcc _ _ _ _ hltj
       have HG' := HG.out;rw [hdrop, goKids] at HG';replace HG' := Option.bind_eq_some_iff.mp HG';obtain ⟨⟨r1, ns1⟩, hr1, HG'⟩ := HG';have HR1 := zf.mk hr1;have HG2 := zf.mk HG';clear hdrop hlen HG hc5 hr1 HG' hpA;have hjlt : j < 3 := by omega
       have hbl := zdh x j;have S0 : wr.cell? ⟨w.heap.size, 1 + j, none⟩ = some (.int .i64 c5) := HCELL.out;have hwz : w.heap.size < wr.heap.size := Yp BR.out;go_wp2_with fail
       go_region_held3 (fun w' => w'.cell? ⟨w.heap.size, 1 + j, none⟩ = some (.int .i64 c5)) (first | go_keep | exact S0 | exact S3.out | exact S4.out | exact S5.out | exact S6.out)
        ((first
         | (go_at_call 45; refine (zks w.heap.size x j _ hjlt ?b0 ?b6 ?b7 ?b8).mono ?_; (case b0 => exact yc BR.out 0); (case b6 => exact yc BR.out 6); (case b7 => exact yc BR.out 7); (case b8 => exact yc BR.out 8); rintro e w3 ⟨A3, c3, rfl, hc3, hC3, hb3⟩; have hb3 : Below wr.heap.size wr w3 := (Yw (Below.refl _ _)).trans hb3; have N3 := zf.mk (Kd.Zg NR.out hb3); have O3 := zf.mk (Kd.zbe OR.out hb3); have E3 := zf.mk (Kd.zbe ER.out hb3); have G3 := zf.mk (zy GR.out hb3); have B3 := zf.mk (zy BR.out hb3); have P3 := zf.mk (fun h => zy (PR.out h) hb3); have K3 := zf.mk (Kept.below KR.out hb3); have Y3 := zf.mk (LowB.below YR.out hgnl hb3); have S3 := zf.mk (Xa hb3 HCELL.out); have C3 := zf.mk hC3; have Z3 := zf.mk hb3.size; clear hC3 hb3 hc3)
         | (go_at_call 44; refine (zhp w3.heap.size A A3 c c3 env (boundOf x j) _ ?g0 ?g1 ?g2 (by omega) (by omega)).mono ?_; (case g0 => exact heap_alloc_new w3 _); (case g1 => exact Kd.zgs (Kd.zc1 E3.out _)); (case g2 => exact Kd.Yg C3.out _); rintro e w5 ⟨v5, rfl, hr5, hb5⟩; obtain ⟨A5, c6, rfl, hle5, _⟩ := Kd.zde hr5; have E5 := zf.mk (zqh hr5 (gn := gn) (by have := Z3.out; simp; omega)); have hb5 : Below w3.heap.size w3 w5 := ((Below.refl _ _).alloc (Nat.le_refl _) _).trans (hb5.mono (by simp)); have N5 := zf.mk (Kd.Zg N3.out hb5); have O5 := zf.mk (Kd.zbe O3.out hb5); have F5 := zf.mk (Kd.zbe E3.out hb5); have G5 := zf.mk (zy G3.out hb5); have B5 := zf.mk (zy B3.out hb5); have P5 := zf.mk (fun h => zy (P3.out h) hb5); have K5 := zf.mk (Kept.below K3.out hb5); have Y5 := zf.mk (LowB.below Y3.out hgnl hb5); have S5 := zf.mk (Xa hb5 S3.out); have L5 := zf.mk hle5; clear hr5 hb5 hle5)
         | (go_at_call 21; rw [← List.length_append]; (with_reducible refine (IH.out g gn cap nn Ao co ops nsj c5 A5 c6 (env ++ boundOf x j) r1 ns1 base w5 HNJ.out G5.out O5.out N5.out E5.out L5.out HR1.out).mono ?_); rintro e w6 ⟨v6, rfl, he6, hn6, hk6, hy6⟩; have HY6 := zf.mk hy6; have S6 := zf.mk (cell_kept S5.out hk6 (by show w.heap.size ≠ gn; omega)); have HE6 := zf.mk he6; have N6 := zf.mk hn6; have HK6 := zf.mk hk6; clear he6 hn6 hk6 hy6)))
       have hwgn : w.heap.size ≠ gn := by omega
       have hwgn1 : q ≠ gn := by omega
       rcases r1 with _ | ⟨ea, ec⟩
       ·
        obtain rfl : v6 = .nilIface := HE6.out;have hg2 : goKids (rnode.f k ops) x env ((kidsOf x).drop (j + 1)) (j + 1) ns1 = some (r, ns') := HG2.out;have HG3 := zf.mk hg2;clear hg2 HG2 HE6 HR1;go_wp2_with fail
        go_roundw
        case rel => exact ⟨j + 1, ns1, by go_num, by omega, HG3, ⟨(Kd.Yn N6.out).1.symm⟩, ⟨zbb G5.out HK6.out hgne⟩, ⟨Kd.zoc O5.out HK6.out (fun _ h => h)⟩, ⟨N6.out⟩, ⟨Kd.zoc F5.out HK6.out (fun _ h => h)⟩, ⟨Kept.zh9 K5.out HK6.out (fun _ h => .inl h)⟩, ⟨LowB.trans Y5.out HY6.out⟩, ⟨zbb B5.out HK6.out hwgn⟩, ⟨fun h => zbb (P5.out h) HK6.out hwgn1⟩⟩
        case measure => simp [intOf]; omega
       ·
        obtain ⟨ge, hge, rfl, hbe⟩ : ∃ ge, w5.heap.size ≤ ge ∧ v6 = .iface 65 (.pointer (some ⟨ge, 0, none⟩)) ∧ w6.heap[ge]? = some (.cells #[.int .i64 ea, .iface 27 (.int .i64 ec)] 70 (0, 0)) := HE6.out;have hg2 : (some (some (ea, ec), ns1) : Option (Option (Int × Int) × List S44)) = some (r, ns') := HG2.out;simp only [Option.some.injEq, Prod.mk.injEq] at hg2;obtain ⟨rfl, rfl⟩ := hg2;have HBE := zf.mk hbe;clear HG2 HE6 HR1 hbe;go_wp2_with fail
        go_ret;exact ⟨_, rfl, ⟨ge, by have := K5.out.1; omega, rfl, HBE.out⟩, N6.out, Kept.zh9 K5.out HK6.out (fun _ h => .inl h), LowB.trans Y5.out HY6.out⟩
      ·
       have hin : j = n3 := by omega
       have HG' := HG.out;rw [List.drop_eq_nil_of_le (by rw [HKL.out]; omega), goKids] at HG';simp only [Option.some.injEq, Prod.mk.injEq] at HG';obtain ⟨rfl, rfl⟩ := HG';clear HG hin;go_wp2
       go_ret;exact ⟨_, rfl, rfl, NR.out, KR.out, YR.out⟩
  ·
   rw [if_neg h0] at h; cases h
def Zy.f (k : Nat) (l0 : List (S42)) (l1 : List (S44)) : Option ((List (S42)) × (List (S44)) × Int × Int) :=
 (zb0.f k l0 l1).bind fun m => if m = true then (if l0.length ≤ 4 ∧ 1 ≤ l1.length ∧ l1.length ≤ 512 ∧ (l0.all fun o => decide (o.f0.size ≤ 1000)) = true then
  (if twiceGo [] l0 = true then some ([], [], 0, 602) else (rnode.f k l0 l1 ((l1.length : Int) - 1) []).bind fun p => match p.1 with
   | none => some (l0, p.2, 0, 0)
   | some (a, c) => if c = 0 then none else some ([], [], a, c)) else none) else some ([], [], 0, 600)
theorem zg0 (g g' : List S44 → Int → List ByteArray → Option (Option (Int × Int) × List S44)) (h : ∀ ns a e, LeO (g ns a e) (g' ns a e)) (x : S44) (env : List ByteArray) : ∀ cs i ns, LeO (goKids g x env cs i ns) (goKids g' x env cs i ns)
 | [], i, ns => LeO.refl _
 | c :: cs, i, ns => by
  unfold goKids;refine LeO.bind (h _ _ _) fun p => ?_
  rcases p with ⟨_ | e, ns2⟩
  ·
   exact zg0 g g' h x env cs (i + 1) ns2
  ·
   exact LeO.refl _
theorem rnode.mono : ∀ k ops ns a env, LeO (rnode.f k ops ns a env) (rnode.f (k + 1) ops ns a env)
 | 0, ops, ns, a, env => fun r h => by simp [rnode.f] at h
 | k + 1, ops, ns, a, env => by
  have ih := fun ns a env => rnode.mono k ops ns a env
  rw [rnode.f, rnode.f];refine LeO.ite ?_ (LeO.refl _);dsimp only;refine LeO.ite ?_ (LeO.ite (LeO.ite (LeO.refl _) (zg0 _ _ ih _ _ _ _ _)) (zg0 _ _ ih _ _ _ _ _));exact LeO.bind (xe.mono _ _) fun r => LeO.bind (xq.mono _ _ _) fun i => LeO.refl _
theorem Zy.mono : ∀ a0 a1 k, LeO (Zy.f k a0 a1) (Zy.f (k + 1) a0 a1) := by
 intro a0 a1 k;unfold Zy.f;exact LeO.bind (zb0.mono _ _ k) fun m => LeO.ite (LeO.ite (LeO.ite (LeO.refl _) (LeO.bind (rnode.mono k _ _ _ _) fun p => LeO.refl _)) (LeO.refl _)) (LeO.refl _)
theorem zec (w : World) (A0 A1 : Option Addr) (n0 c0 n1 c1 : Nat) : Below w.heap.size w ((w.alloc (.cells #[.slice A0 n0 c0, .slice A1 n1 c1] 25)).alloc (.cells #[.slice none 0 0, .slice none 0 0] 25)) ∧
  ((w.alloc (.cells #[.slice A0 n0 c0, .slice A1 n1 c1] 25)).alloc (.cells #[.slice none 0 0, .slice none 0 0] 25)).heap[w.heap.size]? = some (.cells #[.slice A0 n0 c0, .slice A1 n1 c1] 25 (0, 0)) ∧ ((w.alloc (.cells #[.slice A0 n0 c0, .slice A1 n1 c1] 25)).alloc (.cells #[.slice none 0 0, .slice none 0 0] 25)).heap[w.heap.size + 1]? = some (.cells #[.slice none 0 0, .slice none 0 0] 25 (0, 0)) ∧
  ((w.alloc (.cells #[.slice A0 n0 c0, .slice A1 n1 c1] 25)).alloc (.cells #[.slice none 0 0, .slice none 0 0] 25)).heap.size = w.heap.size + 2 :=
 ⟨((Below.refl _ _).alloc (Nat.le_refl _) _).alloc (by simp) _, zo (heap_alloc_new w _) _, zfj (by simp) _, by simp⟩
set_option maxRecDepth 100000 in
set_option maxHeartbeats 8000000 in
theorem Zy.calls (k : Nat) (Ye : Option Addr) (Yf : Nat) (vk : List (S42)) (Xb : Option Addr) (Yo : Nat) (vw : List (S44)) (r1 : List (S42)) (r2 : List (S44)) (r3 : Int) (r4 : Int) (w : World) (hr0_0 : Kd.C k42 w Ye vk.length vk) (hc0_0 : vk.length ≤ Yf) (hr0_1 : Kd.C k44 w Xb vw.length vw) (hc0_1 : vw.length ≤ Yo) (h : Zy.f k vk vw = some (r1, r2, r3, r4)) (hG : Err.ErrTy w) :
  Calls Tryz.prog 5 #[.agg #[.slice Ye vk.length Yf, .slice Xb vw.length Yo]] w fun e w' => ∃ v0_ v1_ : Value, e = .returned (.tuple #[.agg #[v0_, v1_], .int .i64 r3, .int .i64 r4]) ∧ Kd.R k42 42 w' w.heap.size (fun _ => True) v0_ r1 ∧ Kd.R k44 44 w' w.heap.size (fun _ => True) v1_ r2 ∧ Below w.heap.size w w' := by
 unfold Zy.f at h;replace h := Option.bind_eq_some_iff.mp h;obtain ⟨m, hm, h⟩ := h;have HC0 := zf.mk hr0_0;have HC1 := zf.mk hr0_1;have HL0 := zf.mk hc0_0;have HL1 := zf.mk hc0_1;have HM := zf.mk hm;have HG := zf.mk hG;have HB := zf.mk (Below.refl w.heap.size w);clear hr0_0 hr0_1 hc0_0 hc0_1 hm hG;cases m with
 | false =>
  simp only [Bool.false_eq_true, if_false, Option.some.injEq, Prod.mk.injEq] at h;obtain ⟨rfl, rfl, rfl, rfl⟩ := h;have P2 := zf.mk (zec w Ye Xb vk.length Yf vw.length Yo);go_enter Tryz.func5, Tryz.ntmps5;go_wp2_with fail
  generalize hW2 : ((w.alloc (.cells #[.slice Ye vk.length Yf, .slice Xb vw.length Yo] 25)).alloc (.cells #[.slice none 0 0, .slice none 0 0] 25)) = w2 at *;clear hW2;refine (zb0.calls k Ye Yf vk Xb Yo vw false w2 (Kd.Zq HC0.out P2.out.1) HL0.out (Kd.Zq HC1.out P2.out.1) HL1.out HM.out).mono ?_;rintro e w3 ⟨rfl, hb3⟩;have BR := zf.mk (zy P2.out.2.2.1 hb3);have HB3 := zf.mk (P2.out.1.trans (hb3.mono P2.out.1.size));have r0 : w3.cell? ⟨w.heap.size + 1, 0, none⟩ = some (.slice none 0 0) := yc BR.out 0;have r1 : w3.cell? ⟨w.heap.size + 1, 1, none⟩ = some (.slice none 0 0) := yc BR.out 1;have f0 : w3.frozen? ⟨w.heap.size + 1, 0, none⟩ = false := zx BR.out 0;have f1 : w3.frozen? ⟨w.heap.size + 1, 1, none⟩ = false := zx BR.out 1;clear hb3;go_wp2_with fail
  refine bodyPost_ret (zb6 rfl _ _ (w.heap.size + 1) 25 #[.slice none 0 0, .slice none 0 0] (0, 0) _ rfl (Xz (Xz BR.out 0 (.slice none 0 0)) 1 (.slice none 0 0)) Tryz.underlying25 rfl (by kernel_rfl)) rfl ?_;exact ⟨_, _, rfl, Kd.zfg _ _ _ _ _, Kd.zfg _ _ _ _ _, (HB3.out.setCell (by show w.heap.size ≤ w.heap.size + 1; omega) _).setCell (by show w.heap.size ≤ w.heap.size + 1; omega) _⟩
 | true =>
  simp only [if_true] at h;by_cases hc : vk.length ≤ 4 ∧ 1 ≤ vw.length ∧ vw.length ≤ 512 ∧ (vk.all fun o => decide (o.f0.size ≤ 1000)) = true
  ·
   rw [if_pos hc] at h;obtain ⟨h4, h1, h512, hall⟩ := hc;have hsz : ∀ o ∈ vk, o.f0.size ≤ 1000 := fun o ho => of_decide_eq_true (List.all_eq_true.1 hall o ho)
   have HSZ := zf.mk hsz;obtain ⟨ad, rfl, _⟩ := HC1.out.2.2 (by omega);have P2 := zf.mk (zec w Ye (some ad) vk.length Yf vw.length Yo);clear hall hsz;cases ht : twiceGo [] vk
   ·
    rw [ht] at h;simp only [Bool.false_eq_true, if_false] at h;replace h := Option.bind_eq_some_iff.mp h;obtain ⟨⟨re, ns'⟩, hre, h⟩ := h;have HT := zf.mk ht;have HRE := zf.mk hre;have H := zf.mk h;clear ht hre h;go_enter Tryz.func5, Tryz.ntmps5;go_wp2_with fail
    generalize hW2 : ((w.alloc (.cells #[.slice Ye vk.length Yf, .slice (some ad) vw.length Yo] 25)).alloc (.cells #[.slice none 0 0, .slice none 0 0] 25)) = w2 at *;clear hW2;refine (zb0.calls k Ye Yf vk (some ad) Yo vw true w2 (Kd.Zq HC0.out P2.out.1) HL0.out (Kd.Zq HC1.out P2.out.1) HL1.out HM.out).mono ?_;rintro e w3 ⟨rfl, hb3⟩;have BR := zf.mk (zy P2.out.2.2.1 hb3);have BP := zf.mk (zy P2.out.2.1 hb3);have HB3 := zf.mk (P2.out.1.trans (hb3.mono P2.out.1.size));have p0 : w3.cell? ⟨w.heap.size, 0, none⟩ = some (.slice Ye vk.length Yf) := yc BP.out 0;have p1 : w3.cell? ⟨w.heap.size, 1, none⟩ = some (.slice (some ad) vw.length Yo) := yc BP.out 1;clear hb3;go_wp2_with fail
    refine (zed Ye Yf vk w3 (Kd.Zq HC0.out HB3.out) h4 HSZ.out).mono ?_;rintro e w4 ⟨rfl, hb4⟩;rw [HT.out];have HB4 := zf.mk (HB3.out.trans (hb4.mono HB3.out.size));have BR4 := zf.mk (zy BR.out hb4);have BP4 := zf.mk (zy BP.out hb4);have p0 : w4.cell? ⟨w.heap.size, 0, none⟩ = some (.slice Ye vk.length Yf) := yc BP4.out 0;have p1 : w4.cell? ⟨w.heap.size, 1, none⟩ = some (.slice (some ad) vw.length Yo) := yc BP4.out 1;clear hb4 BR BP;have S0 : w4.cell? ⟨w.heap.size, 0, none⟩ = some (.slice Ye vk.length Yf) ∧ w4.cell? ⟨w.heap.size, 1, none⟩ = some (.slice (some ad) vw.length Yo) := ⟨p0, p1⟩;have hws : w.heap.size < w4.heap.size := World.block_lt_of_cell? w4 _ p0;go_wp2_with fail
    go_region_held3 (fun w' => w'.cell? ⟨w.heap.size, 0, none⟩ = some (.slice Ye vk.length Yf) ∧ w'.cell? ⟨w.heap.size, 1, none⟩ = some (.slice (some ad) vw.length Yo)) (first | go_keep | exact S0 | exact S5.out | exact S6.out)
     ((first
      | (go_at_call 18; refine (zow Ye Yf vk _ ?g0 (by omega)).mono ?_; (case g0 => exact Kd.Yv (Kd.Zq HC0.out HB4.out)); rintro e w5 ⟨v5, rfl, hr5, hb5⟩; obtain ⟨Ao, co, rfl⟩ := Kd.Vl hr5; have hb5 : Below w4.heap.size w4 w5 := (Yw (Below.refl _ _)).trans hb5; have Z5 := zf.mk hb5.size; have R5 := zf.mk (show Kd.R k42 42 w5 w4.heap.size (fun _ => True) (.slice Ao vk.length co) vk from hr5); have S5 := zf.mk (show w5.cell? ⟨w.heap.size, 0, none⟩ = some (.slice Ye vk.length Yf) ∧ w5.cell? ⟨w.heap.size, 1, none⟩ = some (.slice (some ad) vw.length Yo) from ⟨Xa hb5 S0.1, Xa hb5 S0.2⟩); have BR5 := zf.mk (zy BR4.out hb5); have HB5 := zf.mk (HB4.out.trans (hb5.mono HB4.out.size)); clear hr5 hb5)
      | (go_at_call 19; refine (zqe ad Yo vw _ ?g1 (by omega)).mono ?_; (case g1 => exact Kd.Zq HC1.out HB5.out); rintro e w6 ⟨v6, rfl, hr6, hb6⟩; obtain ⟨gn, cap, rfl, hg0, hg1, _⟩ := Kd.zk8 hr6 (by omega); have R6 := zf.mk hr6; have Q6 := zf.mk (Kd.Zg R5.out hb6); have S6 := zf.mk (show w6.cell? ⟨w.heap.size, 0, none⟩ = some (.slice Ye vk.length Yf) ∧ w6.cell? ⟨w.heap.size, 1, none⟩ = some (.slice (some ad) vw.length Yo) from ⟨Xa hb6 S5.out.1, Xa hb6 S5.out.2⟩); have BR6 := zf.mk (zy BR5.out hb6); have HB6 := zf.mk (HB5.out.trans (hb6.mono HB5.out.size)); have Z6 := zf.mk hb6.size; have HY56 := zf.mk hb6; clear hr6 hb6)))
    have hgn4 : gn < w6.heap.size := hg1;have O7 := zf.mk (Kd.zgj (Kd.zc1 (Kd.zbe (Kd.R_F (Kd.zbd R5.out)) (show Below w5.heap.size w5 w6 from HY56.out)) (.cells #[.slice Ao vk.length co, .slice (some ⟨gn, 0, none⟩) vw.length cap] 46)) (fun k hk => (show k ≠ gn by have := hk.2.2.1; omega)));have N7 := zf.mk (Kd.yf (Kd.Zu (Kd.zgi rfl R6.out) (fun k hk => (show k = gn by have h9 : some k = some gn := hk; injection h9))) (.cells #[.slice Ao vk.length co, .slice (some ⟨gn, 0, none⟩) vw.length cap] 46));have G7 := zf.mk (heap_alloc_new w6 (.cells #[.slice Ao vk.length co, .slice (some ⟨gn, 0, none⟩) vw.length cap] 46));have BR7 := zf.mk (zo BR6.out (.cells #[.slice Ao vk.length co, .slice (some ⟨gn, 0, none⟩) vw.length cap] 46));have HB7 := zf.mk (HB6.out.alloc HB6.out.size (.cells #[.slice Ao vk.length co, .slice (some ⟨gn, 0, none⟩) vw.length cap] 46));have Z7 : (w6.alloc (.cells #[.slice Ao vk.length co, .slice (some ⟨gn, 0, none⟩) vw.length cap] 46)).heap.size = w6.heap.size + 1 := by simp
    have HY57 := zf.mk (HY56.out.alloc HY56.out.size (.cells #[.slice Ao vk.length co, .slice (some ⟨gn, 0, none⟩) vw.length cap] 46));generalize w6.alloc (.cells #[.slice Ao vk.length co, .slice (some ⟨gn, 0, none⟩) vw.length cap] 46) = w7 at *;have hgr : w6.heap.size ≠ gn := by omega
    have hwr : w.heap.size + 1 ≠ gn := by have := Yp BR4.out; have := Z5.out; omega
    generalize w6.heap.size = gr at *;have g0 : w7.cell? ⟨gr, 0, none⟩ = some (.slice Ao vk.length co) := yc G7.out 0;have g1 : w7.cell? ⟨gr, 1, none⟩ = some (.slice (some ⟨gn, 0, none⟩) vw.length cap) := yc G7.out 1;go_wp2_with fail
    refine (rnode.calls k gr gn cap vw.length Ao co vk vw ((vw.length : Int) - 1) none 0 [] re ns' w5.heap.size w7 rfl G7.out O7.out N7.out (Kd.F_nil _ _ _) (Nat.le_refl _) HRE.out).mono ?_;rintro e w8 ⟨v8, rfl, he8, hn8, hk8, hy8⟩;have hw5 : w.heap.size ≤ w5.heap.size := HB5.out.size;have HB8 := zf.mk (HB7.out.trans (hy8.2 w.heap.size (by omega)));have BR8 := zf.mk (zbb BR7.out hk8 hwr);have G8 := zf.mk (zbb G7.out hk8 hgr);have N8 := zf.mk hn8;have O8 := zf.mk (Kd.R_kept (Kd.Zg (Kd.Zu (Kd.zbd R5.out) (fun k hk => (show k ≠ gn by have := hk.2.2.1; omega))) HY57.out) hk8 (fun _ h => h));have HE8 := zf.mk he8;have HG8 := zf.mk (HG.out.below HG.out.lt (HB8.out.mono (Nat.le_of_lt HG.out.lt) |> fun h => HB8.out));clear he8 hn8 hk8 hy8 BR7 G7 N7 O7;rcases re with _ | ⟨ea, ec⟩
    ·
     obtain rfl : v8 = .nilIface := HE8.out;have h := H.out;simp only [Option.some.injEq, Prod.mk.injEq] at h;obtain ⟨rfl, rfl, rfl, rfl⟩ := h;clear H;go_wp2_with fail
     refine (Err.told_nil w8).mono ?_;rintro e w9 ⟨rfl, hb9⟩;have BR9 := zf.mk (zy BR8.out hb9);have G9 := zf.mk (zy G8.out hb9);have N9 := zf.mk (Kd.Zg N8.out hb9);have O9 := zf.mk (Kd.Zg O8.out hb9);have HB9 := zf.mk (HB8.out.trans (hb9.mono HB8.out.size));have g0 : w9.cell? ⟨gr, 0, none⟩ = some (.slice Ao vk.length co) := yc G9.out 0;have g1 : w9.cell? ⟨gr, 1, none⟩ = some (.slice (some ⟨gn, 0, none⟩) vw.length cap) := yc G9.out 1;have r0 : w9.cell? ⟨w.heap.size + 1, 0, none⟩ = some (.slice none 0 0) := yc BR9.out 0;have r1 : w9.cell? ⟨w.heap.size + 1, 1, none⟩ = some (.slice none 0 0) := yc BR9.out 1;have f0 : w9.frozen? ⟨w.heap.size + 1, 0, none⟩ = false := zx BR9.out 0;have f1 : w9.frozen? ⟨w.heap.size + 1, 1, none⟩ = false := zx BR9.out 1;have hgr2 : gr ≠ w.heap.size + 1 := by have := Yp BR4.out; have := Z5.out; have := Z6.out; omega
     clear hb9;have hlw4 := Yp BR4.out;have O10 := zf.mk (Kd.X0 (Kd.Zu (Kd.zbd O9.out) (fun k hk => (show k ≠ w.heap.size + 1 by have := hk.2.1; omega))) (show w.heap.size ≤ w4.heap.size by omega));have N10 := zf.mk (Kd.X0 (Kd.Zu (Kd.zbd N9.out) (fun k hk => (show k ≠ w.heap.size + 1 by have := hk.2.1; have := Z5.out; omega))) hw5);have O11 := zf.mk (Kd.Zu (Kd.Zn (p := ⟨w.heap.size + 1, 1, none⟩) (Kd.Zn (p := ⟨w.heap.size + 1, 0, none⟩) O10.out (fun _ h => h) (.slice Ao vk.length co)) (fun _ h => h) (.slice (some ⟨gn, 0, none⟩) vw.length cap)) (fun _ _ => trivial : ∀ k_, _ → (fun _ => True) k_));have N11 := zf.mk (Kd.Zu (Kd.Zn (p := ⟨w.heap.size + 1, 1, none⟩) (Kd.Zn (p := ⟨w.heap.size + 1, 0, none⟩) N10.out (fun _ h => h) (.slice Ao vk.length co)) (fun _ h => h) (.slice (some ⟨gn, 0, none⟩) vw.length cap)) (fun _ _ => trivial : ∀ k_, _ → (fun _ => True) k_));have HB11 := zf.mk ((HB9.out.setCell (p := ⟨w.heap.size + 1, 0, none⟩) (by show w.heap.size ≤ w.heap.size + 1; omega) (.slice Ao vk.length co)).setCell (p := ⟨w.heap.size + 1, 1, none⟩) (by show w.heap.size ≤ w.heap.size + 1; omega) (.slice (some ⟨gn, 0, none⟩) vw.length cap));have BR11 := zf.mk (Xz (Xz BR9.out 0 (.slice Ao vk.length co)) 1 (.slice (some ⟨gn, 0, none⟩) vw.length cap));clear O9 N9 O10 N10 O8 N8 G8 BR8 hlw4;go_wp2_with fail
     go_region
     all_goals go_wp2
     all_goals refine bodyPost_ret (zb6 rfl _ _ (w.heap.size + 1) 25 #[.slice Ao vk.length co, .slice (some ⟨gn, 0, none⟩) vw.length cap] (0, 0) _ rfl BR11.out Tryz.underlying25 rfl (by kernel_rfl)) rfl ?_
     all_goals exact ⟨_, _, rfl, Kd.yu O11.out, Kd.yu N11.out, Yw HB11.out⟩
    ·
     obtain ⟨ge, hge, rfl, hbe⟩ : ∃ ge, w7.heap.size ≤ ge ∧ v8 = .iface 65 (.pointer (some ⟨ge, 0, none⟩)) ∧ w8.heap[ge]? = some (.cells #[.int .i64 ea, .iface 27 (.int .i64 ec)] 70 (0, 0)) := HE8.out;have h := H.out;by_cases hec : ec = 0
     ·
      simp only [if_pos hec] at h;cases h
     ·
      simp only [if_neg hec, Option.some.injEq, Prod.mk.injEq] at h;obtain ⟨rfl, rfl, rfl, rfl⟩ := h;have b1 : (ec == 0) = false := beq_eq_false_iff_ne.mpr hec;have b2 : (ec != 0) = true := by rw [bne_iff_ne]; exact hec
      clear H hec;go_wp2_with fail
      refine (Err.zrl ge ea ec w8 HG8.out (yc hbe 0) (yc hbe 1)).mono ?_;rintro e w9 ⟨rfl, hb9⟩;have BR9 := zf.mk (zy BR8.out hb9);have HB9 := zf.mk (HB8.out.trans (hb9.mono HB8.out.size));have r0 : w9.cell? ⟨w.heap.size + 1, 0, none⟩ = some (.slice none 0 0) := yc BR9.out 0;have r1 : w9.cell? ⟨w.heap.size + 1, 1, none⟩ = some (.slice none 0 0) := yc BR9.out 1;have f0 : w9.frozen? ⟨w.heap.size + 1, 0, none⟩ = false := zx BR9.out 0;have f1 : w9.frozen? ⟨w.heap.size + 1, 1, none⟩ = false := zx BR9.out 1;clear hb9;go_wp2_with fail
      refine bodyPost_ret (zb6 rfl _ _ (w.heap.size + 1) 25 #[.slice none 0 0, .slice none 0 0] (0, 0) _ rfl (Xz (Xz BR9.out 0 (.slice none 0 0)) 1 (.slice none 0 0)) Tryz.underlying25 rfl (by kernel_rfl)) rfl ?_;exact ⟨_, _, rfl, Kd.zfg _ _ _ _ _, Kd.zfg _ _ _ _ _, (HB9.out.setCell (by show w.heap.size ≤ w.heap.size + 1; omega) _).setCell (by show w.heap.size ≤ w.heap.size + 1; omega) _⟩
   ·
    rw [ht] at h;simp only [if_true, Option.some.injEq, Prod.mk.injEq] at h;obtain ⟨rfl, rfl, rfl, rfl⟩ := h;have HT := zf.mk ht;clear ht;go_enter Tryz.func5, Tryz.ntmps5;go_wp2_with fail
    generalize hW2 : ((w.alloc (.cells #[.slice Ye vk.length Yf, .slice (some ad) vw.length Yo] 25)).alloc (.cells #[.slice none 0 0, .slice none 0 0] 25)) = w2 at *;clear hW2;refine (zb0.calls k Ye Yf vk (some ad) Yo vw true w2 (Kd.Zq HC0.out P2.out.1) HL0.out (Kd.Zq HC1.out P2.out.1) HL1.out HM.out).mono ?_;rintro e w3 ⟨rfl, hb3⟩;have BR := zf.mk (zy P2.out.2.2.1 hb3);have BP := zf.mk (zy P2.out.2.1 hb3);have HB3 := zf.mk (P2.out.1.trans (hb3.mono P2.out.1.size));have p0 : w3.cell? ⟨w.heap.size, 0, none⟩ = some (.slice Ye vk.length Yf) := yc BP.out 0;clear hb3;go_wp2_with fail
    refine (zed Ye Yf vk w3 (Kd.Zq HC0.out HB3.out) h4 HSZ.out).mono ?_;rintro e w4 ⟨rfl, hb4⟩;rw [HT.out];have HB4 := zf.mk (HB3.out.trans (hb4.mono HB3.out.size));have BR4 := zf.mk (zy BR.out hb4);have r0 : w4.cell? ⟨w.heap.size + 1, 0, none⟩ = some (.slice none 0 0) := yc BR4.out 0;have r1 : w4.cell? ⟨w.heap.size + 1, 1, none⟩ = some (.slice none 0 0) := yc BR4.out 1;have f0 : w4.frozen? ⟨w.heap.size + 1, 0, none⟩ = false := zx BR4.out 0;have f1 : w4.frozen? ⟨w.heap.size + 1, 1, none⟩ = false := zx BR4.out 1;clear hb4;go_wp2_with fail
    refine bodyPost_ret (zb6 rfl _ _ (w.heap.size + 1) 25 #[.slice none 0 0, .slice none 0 0] (0, 0) _ rfl (Xz (Xz BR4.out 0 (.slice none 0 0)) 1 (.slice none 0 0)) Tryz.underlying25 rfl (by kernel_rfl)) rfl ?_;exact ⟨_, _, rfl, Kd.zfg _ _ _ _ _, Kd.zfg _ _ _ _ _, (HB4.out.setCell (by show w.heap.size ≤ w.heap.size + 1; omega) _).setCell (by show w.heap.size ≤ w.heap.size + 1; omega) _⟩
  ·
   rw [if_neg hc] at h;cases h
def bndOf (kind : Int) (i : Nat) : Int := match i with | 0 => (bindsOf kind).1 | 1 => (bindsOf kind).2.1 | _ => (bindsOf kind).2.2
theorem zqj (kind : Int) (i : Nat) : 0 ≤ bndOf kind i ∧ bndOf kind i ≤ 2 := by
 unfold bndOf bindsOf;split <;> (repeat' split) <;> simp
theorem idx_at (kind : Int) (j : Nat) (hj : j < 3) (w : World) : (Instr.index 91 (.agg #[.int .i64 (bindsOf kind).1, .int .i64 (bindsOf kind).2.1, .int .i64 (bindsOf kind).2.2]) (.int .i64 j)).run Tryz.prog w = .ok (.int .i64 (bndOf kind j)) w := by
 rcases (show j = 0 ∨ j = 1 ∨ j = 2 by omega) with rfl | rfl | rfl
 ·
  exact zet _ _ _ w
 ·
  exact zeu _ _ _ w
 ·
  exact zev _ _ _ w
def goW (g : Int → Int → Option Bool) (x : S44) (names : Int) : List Int → Nat → Option Bool
 | [], _ => some true
 | c :: cs, i => (g c (names + bndOf x.f0 i)).bind fun b => if b = true then goW g x names cs (i + 1) else some false
def within.f : Nat → Int → List S44 → Int → Int → Option Bool
 | 0, _, _, _, _ => none
 | k + 1, no, l, a, names => if 0 ≤ a ∧ a < (l.length : Int) ∧ 0 ≤ names ∧ names ≤ 100000 then
   (let x := zl l a
   (Yt.f x.f0).bind fun nb => if nb = true ∧ (x.f4 < 0 ∨ x.f4 ≥ (if x.f0 = 0 then names else no)) then some false else goW (within.f k no l) x names (kidsOf x) 0) else none
theorem zqk {g g' : Int → Int → Option Bool} (h : ∀ a b, LeO (g a b) (g' a b)) (x : S44) (names : Int) : ∀ cs i, LeO (goW g x names cs i) (goW g' x names cs i)
 | [], i => LeO.refl _
 | c :: cs, i => by
  unfold goW;exact LeO.bind (h _ _) fun b => LeO.ite (zqk h x names cs _) (LeO.refl _)
theorem within.mono : ∀ k no l a names, LeO (within.f k no l a names) (within.f (k + 1) no l a names)
 | 0, no, l, a, names => fun r h => by simp [within.f] at h
 | k + 1, no, l, a, names => by
  rw [within.f, within.f];exact LeO.ite (LeO.bind (LeO.refl _) fun nb => LeO.ite (LeO.refl _) (zqk (fun a b => within.mono k no l a b) _ _ _ _)) (LeO.refl _)
set_option maxRecDepth 100000 in
set_option maxHeartbeats 8000000 in
theorem within.calls (k : Nat) : ∀ (gp : Nat) (Ao : Option Addr) (no co : Nat) (A0 : Option Addr) (c0 : Nat) (l0 : List S44) (a names : Int) (r : Bool) (w : World) (hp : w.heap[gp]? = some (.cells #[.slice Ao no co, .slice A0 l0.length c0] 25 (0, 0))) (hr0 : Kd.C k44 w A0 l0.length l0) (h : within.f k (no : Int) l0 a names = some r),
  Calls Tryz.prog 28 #[.pointer (some ⟨gp, 0, none⟩), .int .i64 a, .int .i64 names] w fun e w' => e = .returned (.bool r) ∧ Below w.heap.size w w' := by
 induction k with
 | zero => intro gp Ao no co A0 c0 l0 a names r w hp hr0 h; exact absurd h (by simp [within.f])
 | succ k ih =>
  intro gp Ao no co A0 c0 l0 a names r w hp hr0 h;rw [within.f] at h;by_cases h0 : 0 ≤ a ∧ a < (l0.length : Int) ∧ 0 ≤ names ∧ names ≤ 100000
  ·
   rw [if_pos h0] at h;obtain ⟨ha, hb, hn0, hn1⟩ := h0;obtain ⟨ad, e157, hx0, hx1, hx2, hx3, hx4, hx5, hx6, hx7, hx8, hx9⟩ := zbr hr0 a ha hb;cases e157;dsimp only at h;replace h := Option.bind_eq_some_iff.mp h;obtain ⟨nb, hnb, h⟩ := h;have p0 : w.cell? ⟨gp, 0, none⟩ = some (.slice Ao no co) := yc hp 0;have p1 : w.cell? ⟨gp, 1, none⟩ = some (.slice (some ad) l0.length c0) := yc hp 1;have HP := zf.mk hp;have HC := zf.mk hr0;have HNB := zf.mk hnb;have H := zf.mk h;have IH := zf.mk ih;have hpl := Yp hp;clear hp hr0 hnb h ih;generalize hX : zl l0 a = x at *;clear hX;have hpne : gp ≠ w.heap.size := Nat.ne_of_lt hpl;by_cases k0 : x.f0 = 0
   ·
    have hnb := HNB.out;rw [k0] at hnb;obtain rfl : true = nb := Option.some.inj hnb;have HNB := zf.mk hnb;have h := H.out;rw [if_pos k0] at h;have hk0 : kidsOf x = [] := by unfold kidsOf; rw [k0]; rfl
    have hxx : ∃ kd, x.f0 = kd ∧ kd = 0 := ⟨_, rfl, k0⟩;clear hnb H;rw [k0] at hx0;by_cases c1 : x.f4 < 0
    ·
     rw [if_pos ⟨rfl, .inl c1⟩] at h;obtain rfl := Option.some.inj h;have b1 : decide (x.f4 < 0) = true := decide_eq_true c1;clear h c1 k0 hk0 hxx;go_enter Tryz.func28, Tryz.ntmps28;go_wp2_with fail
     refine (Yt.calls 0 true _ HNB.out).mono ?_;rintro e w2 ⟨rfl, ⟨nd, rfl⟩⟩;go_wp2_with fail
     go_ret;exact ⟨rfl, zg ((Below.refl _ _).alloc (Nat.le_refl _) _) _⟩
    ·
     by_cases c2 : x.f4 ≥ names
     ·
      rw [if_pos ⟨rfl, .inr c2⟩] at h;obtain rfl := Option.some.inj h;have b1 : decide (x.f4 < 0) = false := decide_eq_false c1;have b2 : decide (names ≤ x.f4) = true := decide_eq_true c2;clear h c1 c2 k0 hk0 hxx;go_enter Tryz.func28, Tryz.ntmps28;go_wp2_with fail
      refine (Yt.calls 0 true _ HNB.out).mono ?_;rintro e w2 ⟨rfl, ⟨nd, rfl⟩⟩;go_wp2_with fail
      go_ret;exact ⟨rfl, zg ((Below.refl _ _).alloc (Nat.le_refl _) _) _⟩
     ·
      rw [if_neg (fun hh => hh.2.elim c1 c2), hk0, goW] at h;obtain rfl := Option.some.inj h;have b1 : decide (x.f4 < 0) = false := decide_eq_false c1;have b2 : decide (names ≤ x.f4) = false := decide_eq_false c2;clear h c1 c2 k0 hk0 hxx;go_enter Tryz.func28, Tryz.ntmps28;go_wp2_with fail
      refine (Yt.calls 0 true _ HNB.out).mono ?_;rintro e w2 ⟨rfl, ⟨nd, rfl⟩⟩;go_wp2_with fail
      refine (zck w.heap.size 0 0 _ (by simp)).mono ?_;rintro e w5 ⟨rfl, hb5, _⟩;rw [show kidsN 0 = 0 from rfl];have HB5 := zf.mk hb5;clear hb5;go_wp2_with fail
      refine wp_loop_rounds 1 ?_;rw [rounds_succ];go_wp2_with fail
      go_ret;exact ⟨rfl, (zg ((Below.refl _ _).alloc (Nat.le_refl _) _) _).trans (HB5.out.mono (by simp))⟩
   ·
    have h := H.out;rw [if_neg k0] at h;have q0 : (x.f0 == 0) = false := beq_eq_false_iff_ne.mpr k0;clear H k0;cases nb
    ·
     rw [if_neg (fun hh => by simp at hh)] at h;have H2 := zf.mk h;clear h;go_enter Tryz.func28, Tryz.ntmps28;go_wp2_with fail
     refine (Yt.calls x.f0 false _ HNB.out).mono ?_;rintro e w2 ⟨rfl, ⟨nd, rfl⟩⟩;go_wp2_with fail
     have B2 : ((w.alloc (.cells #[.int .i64 x.f0, .int .i64 x.f1, .int .i64 x.f2, .int .i64 x.f3, .int .i64 x.f4, .string x.f5, .string x.f6, .string x.f7, .string x.f8, .int .i64 x.f9] 44)).drewN nd).heap[w.heap.size]? = some (.cells #[.int .i64 x.f0, .int .i64 x.f1, .int .i64 x.f2, .int .i64 x.f3, .int .i64 x.f4, .string x.f5, .string x.f6, .string x.f7, .string x.f8, .int .i64 x.f9] 44 (0, 0)) := heap_alloc_new w _;have HB2 : Below w.heap.size w ((w.alloc (.cells #[.int .i64 x.f0, .int .i64 x.f1, .int .i64 x.f2, .int .i64 x.f3, .int .i64 x.f4, .string x.f5, .string x.f6, .string x.f7, .string x.f8, .int .i64 x.f9] 44)).drewN nd) := zg ((Below.refl _ _).alloc (Nat.le_refl _) _) _;generalize (w.alloc (.cells #[.int .i64 x.f0, .int .i64 x.f1, .int .i64 x.f2, .int .i64 x.f3, .int .i64 x.f4, .string x.f5, .string x.f6, .string x.f7, .string x.f8, .int .i64 x.f9] 44)).drewN nd = w2 at *;have d0 : w2.cell? ⟨w.heap.size, 0, none⟩ = some (.int .i64 x.f0) := yc B2 0;refine (zck w.heap.size 0 x.f0 w2 d0).mono ?_;rintro e w3 ⟨rfl, hb3, hp3⟩;have hqw : w.heap.size < w2.heap.size := Yp B2;obtain ⟨q, hq⟩ : ∃ q, w2.heap.size = q := ⟨_, rfl⟩;have B3 := zf.mk (zy B2 hb3);have HB3 := zf.mk (HB2.trans (hb3.mono HB2.size));rw [hq] at hp3 hqw ⊢;have P3 := zf.mk hp3;have hn3 := zcj x.f0;have hkl := zdg x;have HKL := zf.mk hkl;generalize hN : kidsN x.f0 = n3 at *;have hl2 := zbs w.heap.size (0 + 1) n3;have HL2 := zf.mk hl2;clear hb3 hp3 d0 hl2 hN hkl hq B2 HB2 hx0 hx1 hx2 hx3 hx4 hx5 hx6 hx7 hx8 hx9 q0 p0 p1;go_wp2_with fail
     go_loopw [43] (fun v43 wr => ∃ (j : Nat), v43 = .int .i64 j ∧ j ≤ n3 ∧ zf (goW (within.f k (no : Int) l0) x names ((kidsOf x).drop j) j = some r) ∧ zf (wr.heap[w.heap.size]? = some (.cells #[.int .i64 x.f0, .int .i64 x.f1, .int .i64 x.f2, .int .i64 x.f3, .int .i64 x.f4, .string x.f5, .string x.f6, .string x.f7, .string x.f8, .int .i64 x.f9] 44 (0, 0))) ∧ zf (0 < n3 → wr.heap[q]? = some (.cells (fieldPtrs w.heap.size (0 + 1) n3).toArray 79 (0, 0))) ∧ zf (Below w.heap.size w wr)) (fun v43 _ => n3 - (intOf v43).toNat)
     case atStart => exact ⟨0, rfl, Nat.zero_le _, H2, B3, P3, HB3⟩
     case round =>
      obtain ⟨j, rfl, hj, HG, BR, PR, HBR⟩ := hrel;clear H2 B3 P3 HB3;by_cases hltj : j < n3
      ·
       have hpA : ptrOf q n3 = some ⟨q, 0, none⟩ := zdf (by omega);rw [hpA];have hlen : (kidsOf x).length = n3 := HKL.out;obtain ⟨c5, hc5⟩ : ∃ c5, (kidsOf x)[j]? = some c5 := ⟨_, List.getElem?_eq_getElem (by omega)⟩;have hdrop : (kidsOf x).drop j = c5 :: (kidsOf x).drop (j + 1) := (zha hc5).symm;have S0 : wr.cell? ⟨w.heap.size, 1 + j, none⟩ = some (.int .i64 c5) ∧ wr.cell? ⟨w.heap.size, 0, none⟩ = some (.int .i64 x.f0) := ⟨node_cells x BR.out j c5 hc5, yc BR.out 0⟩;have d2 : wr.cell? ⟨q, j, none⟩ = some (.pointer (some ⟨w.heap.size, 1 + j, none⟩)) := by
        rw [yc (PR.out (by omega)) j, List.getElem?_toArray];exact zcc _ _ _ _ hltj
       have HG' := HG.out;rw [hdrop, goW] at HG';replace HG' := Option.bind_eq_some_iff.mp HG';obtain ⟨rb, hrb, HG'⟩ := HG';have HRB := zf.mk hrb;have HG2 := zf.mk HG';have hjlt : j < 3 := by omega
       have hix := fun W => idx_at x.f0 j hjlt W
       obtain ⟨hbl0, hbl1⟩ := zqj x.f0 j;have HW := zf.mk (show IntKind.i64.wrap (names + bndOf x.f0 j) = names + bndOf x.f0 j from IntWalk.i64_in _ (by omega));have hwz : w.heap.size < wr.heap.size := Yp BR.out;have d1 := S0.1;have d3 := S0.2;clear hdrop hlen HG hc5 hrb HG' hpA;go_wp2_with fail
       go_region_held3 (fun w' => w'.cell? ⟨w.heap.size, 1 + j, none⟩ = some (.int .i64 c5) ∧ w'.cell? ⟨w.heap.size, 0, none⟩ = some (.int .i64 x.f0)) (first | go_keep | exact S0 | exact S5.out | exact S6.out)
        ((first
         | (go_at_call 56; refine (zgz x.f0 _).mono ?_; rintro e w5 ⟨rfl, hb5⟩; have hb5 : Below wr.heap.size wr w5 := (Yw (Below.refl _ _)).trans hb5; have S5 := zf.mk (show w5.cell? ⟨w.heap.size, 1 + j, none⟩ = some (.int .i64 c5) ∧ w5.cell? ⟨w.heap.size, 0, none⟩ = some (.int .i64 x.f0) from ⟨Xa hb5 S0.1, Xa hb5 S0.2⟩); have HB5 := zf.mk hb5; clear hb5)
         | (go_at_call 28; rw [HW.out]; (with_reducible refine (IH.out gp Ao no co (some ad) c0 l0 c5 (names + bndOf x.f0 j) rb w5 ?p0 ?p1 HRB.out).mono ?_); (case p0 => exact zy HP.out (HBR.out.trans (HB5.out.mono HBR.out.size))); (case p1 => exact Kd.Zq HC.out (HBR.out.trans (HB5.out.mono HBR.out.size))); rintro e w6 ⟨rfl, hb6⟩; have S6 := zf.mk (show w6.cell? ⟨w.heap.size, 1 + j, none⟩ = some (.int .i64 c5) ∧ w6.cell? ⟨w.heap.size, 0, none⟩ = some (.int .i64 x.f0) from ⟨Xa hb6 S5.out.1, Xa hb6 S5.out.2⟩); have HB6 := zf.mk (HB5.out.trans (hb6.mono HB5.out.size)); clear hb6)))
       cases rb
       ·
        have hg2 := HG2.out;simp only [Bool.false_eq_true, if_false, Option.some.injEq] at hg2;subst hg2;clear HG2;go_wp2_with fail
        go_ret;exact ⟨rfl, HBR.out.trans (HB6.out.mono HBR.out.size)⟩
       ·
        have hg2 := HG2.out;simp only [if_true] at hg2;have HG3 := zf.mk hg2;clear hg2 HG2;go_wp2_with fail
        go_roundw
        case rel => exact ⟨j + 1, by go_num, by omega, HG3, ⟨zy BR.out HB6.out⟩, ⟨fun h => zy (PR.out h) HB6.out⟩, ⟨HBR.out.trans (HB6.out.mono HBR.out.size)⟩⟩
        case measure => simp [intOf]; omega
      ·
       have hin : j = n3 := by omega
       have HG' := HG.out;rw [List.drop_eq_nil_of_le (by rw [HKL.out]; omega), goW] at HG';obtain rfl := Option.some.inj HG';clear HG hin;go_wp2
       go_ret;exact ⟨rfl, HBR.out⟩
    ·
     by_cases c1 : x.f4 < 0
     ·
      rw [if_pos ⟨rfl, .inl c1⟩] at h;obtain rfl := Option.some.inj h;have b1 : decide (x.f4 < 0) = true := decide_eq_true c1;clear h c1;go_enter Tryz.func28, Tryz.ntmps28;go_wp2_with fail
      refine (Yt.calls x.f0 true _ HNB.out).mono ?_;rintro e w2 ⟨rfl, ⟨nd, rfl⟩⟩;go_wp2_with fail
      go_ret;exact ⟨rfl, zg ((Below.refl _ _).alloc (Nat.le_refl _) _) _⟩
     ·
      by_cases c2 : x.f4 ≥ (no : Int)
      ·
       rw [if_pos ⟨rfl, .inr c2⟩] at h;obtain rfl := Option.some.inj h;have b1 : decide (x.f4 < 0) = false := decide_eq_false c1;have b2 : decide ((no : Int) ≤ x.f4) = true := decide_eq_true c2;clear h c1 c2;go_enter Tryz.func28, Tryz.ntmps28;go_wp2_with fail
       refine (Yt.calls x.f0 true _ HNB.out).mono ?_;rintro e w2 ⟨rfl, ⟨nd, rfl⟩⟩;go_wp2_with fail
       go_ret;exact ⟨rfl, zg ((Below.refl _ _).alloc (Nat.le_refl _) _) _⟩
      ·
       rw [if_neg (fun hh => hh.2.elim c1 c2)] at h;have H2 := zf.mk h;have b1 : decide (x.f4 < 0) = false := decide_eq_false c1;have b2 : decide ((no : Int) ≤ x.f4) = false := decide_eq_false c2;clear h c1 c2;go_enter Tryz.func28, Tryz.ntmps28;go_wp2_with fail
       refine (Yt.calls x.f0 true _ HNB.out).mono ?_;rintro e w2 ⟨rfl, ⟨nd, rfl⟩⟩;go_wp2_with fail
       have B2 : ((w.alloc (.cells #[.int .i64 x.f0, .int .i64 x.f1, .int .i64 x.f2, .int .i64 x.f3, .int .i64 x.f4, .string x.f5, .string x.f6, .string x.f7, .string x.f8, .int .i64 x.f9] 44)).drewN nd).heap[w.heap.size]? = some (.cells #[.int .i64 x.f0, .int .i64 x.f1, .int .i64 x.f2, .int .i64 x.f3, .int .i64 x.f4, .string x.f5, .string x.f6, .string x.f7, .string x.f8, .int .i64 x.f9] 44 (0, 0)) := heap_alloc_new w _;have HB2 : Below w.heap.size w ((w.alloc (.cells #[.int .i64 x.f0, .int .i64 x.f1, .int .i64 x.f2, .int .i64 x.f3, .int .i64 x.f4, .string x.f5, .string x.f6, .string x.f7, .string x.f8, .int .i64 x.f9] 44)).drewN nd) := zg ((Below.refl _ _).alloc (Nat.le_refl _) _) _;generalize (w.alloc (.cells #[.int .i64 x.f0, .int .i64 x.f1, .int .i64 x.f2, .int .i64 x.f3, .int .i64 x.f4, .string x.f5, .string x.f6, .string x.f7, .string x.f8, .int .i64 x.f9] 44)).drewN nd = w2 at *;have d0 : w2.cell? ⟨w.heap.size, 0, none⟩ = some (.int .i64 x.f0) := yc B2 0;refine (zck w.heap.size 0 x.f0 w2 d0).mono ?_;rintro e w3 ⟨rfl, hb3, hp3⟩;have hqw : w.heap.size < w2.heap.size := Yp B2;obtain ⟨q, hq⟩ : ∃ q, w2.heap.size = q := ⟨_, rfl⟩;have B3 := zf.mk (zy B2 hb3);have HB3 := zf.mk (HB2.trans (hb3.mono HB2.size));rw [hq] at hp3 hqw ⊢;have P3 := zf.mk hp3;have hn3 := zcj x.f0;have hkl := zdg x;have HKL := zf.mk hkl;generalize hN : kidsN x.f0 = n3 at *;have hl2 := zbs w.heap.size (0 + 1) n3;have HL2 := zf.mk hl2;clear hb3 hp3 d0 hl2 hN hkl hq B2 HB2 hx0 hx1 hx2 hx3 hx4 hx5 hx6 hx7 hx8 hx9 q0 p0 p1;go_wp2_with fail
       go_loopw [43] (fun v43 wr => ∃ (j : Nat), v43 = .int .i64 j ∧ j ≤ n3 ∧ zf (goW (within.f k (no : Int) l0) x names ((kidsOf x).drop j) j = some r) ∧ zf (wr.heap[w.heap.size]? = some (.cells #[.int .i64 x.f0, .int .i64 x.f1, .int .i64 x.f2, .int .i64 x.f3, .int .i64 x.f4, .string x.f5, .string x.f6, .string x.f7, .string x.f8, .int .i64 x.f9] 44 (0, 0))) ∧ zf (0 < n3 → wr.heap[q]? = some (.cells (fieldPtrs w.heap.size (0 + 1) n3).toArray 79 (0, 0))) ∧ zf (Below w.heap.size w wr)) (fun v43 _ => n3 - (intOf v43).toNat)
       case atStart => exact ⟨0, rfl, Nat.zero_le _, H2, B3, P3, HB3⟩
       case round =>
        obtain ⟨j, rfl, hj, HG, BR, PR, HBR⟩ := hrel;clear H2 B3 P3 HB3;by_cases hltj : j < n3
        ·
         have hpA : ptrOf q n3 = some ⟨q, 0, none⟩ := zdf (by omega);rw [hpA];have hlen : (kidsOf x).length = n3 := HKL.out;obtain ⟨c5, hc5⟩ : ∃ c5, (kidsOf x)[j]? = some c5 := ⟨_, List.getElem?_eq_getElem (by omega)⟩;have hdrop : (kidsOf x).drop j = c5 :: (kidsOf x).drop (j + 1) := (zha hc5).symm;have S0 : wr.cell? ⟨w.heap.size, 1 + j, none⟩ = some (.int .i64 c5) ∧ wr.cell? ⟨w.heap.size, 0, none⟩ = some (.int .i64 x.f0) := ⟨node_cells x BR.out j c5 hc5, yc BR.out 0⟩;have d2 : wr.cell? ⟨q, j, none⟩ = some (.pointer (some ⟨w.heap.size, 1 + j, none⟩)) := by
          rw [yc (PR.out (by omega)) j, List.getElem?_toArray];exact zcc _ _ _ _ hltj
         have HG' := HG.out;rw [hdrop, goW] at HG';replace HG' := Option.bind_eq_some_iff.mp HG';obtain ⟨rb, hrb, HG'⟩ := HG';have HRB := zf.mk hrb;have HG2 := zf.mk HG';have hjlt : j < 3 := by omega
         have hix := fun W => idx_at x.f0 j hjlt W
         obtain ⟨hbl0, hbl1⟩ := zqj x.f0 j;have HW := zf.mk (show IntKind.i64.wrap (names + bndOf x.f0 j) = names + bndOf x.f0 j from IntWalk.i64_in _ (by omega));have hwz : w.heap.size < wr.heap.size := Yp BR.out;have d1 := S0.1;have d3 := S0.2;clear hdrop hlen HG hc5 hrb HG' hpA;go_wp2_with fail
         go_region_held3 (fun w' => w'.cell? ⟨w.heap.size, 1 + j, none⟩ = some (.int .i64 c5) ∧ w'.cell? ⟨w.heap.size, 0, none⟩ = some (.int .i64 x.f0)) (first | go_keep | exact S0 | exact S5.out | exact S6.out)
          ((first
           | (go_at_call 56; refine (zgz x.f0 _).mono ?_; rintro e w5 ⟨rfl, hb5⟩; have hb5 : Below wr.heap.size wr w5 := (Yw (Below.refl _ _)).trans hb5; have S5 := zf.mk (show w5.cell? ⟨w.heap.size, 1 + j, none⟩ = some (.int .i64 c5) ∧ w5.cell? ⟨w.heap.size, 0, none⟩ = some (.int .i64 x.f0) from ⟨Xa hb5 S0.1, Xa hb5 S0.2⟩); have HB5 := zf.mk hb5; clear hb5)
           | (go_at_call 28; rw [HW.out]; (with_reducible refine (IH.out gp Ao no co (some ad) c0 l0 c5 (names + bndOf x.f0 j) rb w5 ?p0 ?p1 HRB.out).mono ?_); (case p0 => exact zy HP.out (HBR.out.trans (HB5.out.mono HBR.out.size))); (case p1 => exact Kd.Zq HC.out (HBR.out.trans (HB5.out.mono HBR.out.size))); rintro e w6 ⟨rfl, hb6⟩; have S6 := zf.mk (show w6.cell? ⟨w.heap.size, 1 + j, none⟩ = some (.int .i64 c5) ∧ w6.cell? ⟨w.heap.size, 0, none⟩ = some (.int .i64 x.f0) from ⟨Xa hb6 S5.out.1, Xa hb6 S5.out.2⟩); have HB6 := zf.mk (HB5.out.trans (hb6.mono HB5.out.size)); clear hb6)))
         cases rb
         ·
          have hg2 := HG2.out;simp only [Bool.false_eq_true, if_false, Option.some.injEq] at hg2;subst hg2;clear HG2;go_wp2_with fail
          go_ret;exact ⟨rfl, HBR.out.trans (HB6.out.mono HBR.out.size)⟩
         ·
          have hg2 := HG2.out;simp only [if_true] at hg2;have HG3 := zf.mk hg2;clear hg2 HG2;go_wp2_with fail
          go_roundw
          case rel => exact ⟨j + 1, by go_num, by omega, HG3, ⟨zy BR.out HB6.out⟩, ⟨fun h => zy (PR.out h) HB6.out⟩, ⟨HBR.out.trans (HB6.out.mono HBR.out.size)⟩⟩
          case measure => simp [intOf]; omega
        ·
         have hin : j = n3 := by omega
         have HG' := HG.out;rw [List.drop_eq_nil_of_le (by rw [HKL.out]; omega), goW] at HG';obtain rfl := Option.some.inj HG';clear HG hin;go_wp2
         go_ret;exact ⟨rfl, HBR.out⟩
  ·
   rw [if_neg h0] at h; cases h
def Ya.f (k : Nat) (l0 : List (S42)) (l1 : List (S44)) : Option Bool :=
 (X4.f k l0).bind fun m => if m = true then (if l0.length ≤ 4 ∧ (l0.all fun o => decide (o.f0.size ≤ 1000)) = true then
  (if twiceGo [] l0 = true then some false else (Yb.f k l1 false).bind fun s => if s = true then (if l1.length ≤ 512 then within.f k (l0.length : Int) l1 ((l1.length : Int) - 1) 0 else none) else some false) else none) else some false
theorem Ya.mono : ∀ a0 a1 k, LeO (Ya.f k a0 a1) (Ya.f (k + 1) a0 a1) := by
 intro a0 a1 k;unfold Ya.f;exact LeO.bind (X4.mono _ k) fun m => LeO.ite (LeO.ite (LeO.ite (LeO.refl _) (LeO.bind (Yb.mono _ _ k) fun s => LeO.ite (LeO.ite (within.mono k _ _ _ _) (LeO.refl _)) (LeO.refl _))) (LeO.refl _)) (LeO.refl _)
set_option maxRecDepth 100000 in
set_option maxHeartbeats 8000000 in
theorem Ya.calls (k : Nat) (Ye : Option Addr) (Yf : Nat) (vk : List (S42)) (Xb : Option Addr) (Yo : Nat) (vw : List (S44)) (r : Bool) (w : World) (hr0_0 : Kd.C k42 w Ye vk.length vk) (hc0_0 : vk.length ≤ Yf) (hr0_1 : Kd.C k44 w Xb vw.length vw) (hc0_1 : vw.length ≤ Yo) (h : Ya.f k vk vw = some r) :
  Calls Tryz.prog 9 #[.agg #[.slice Ye vk.length Yf, .slice Xb vw.length Yo]] w fun e w' => e = .returned (.bool r) ∧ Below w.heap.size w w' := by
 unfold Ya.f at h;replace h := Option.bind_eq_some_iff.mp h;obtain ⟨m, hm, h⟩ := h;have HC0 := zf.mk hr0_0;have HC1 := zf.mk hr0_1;have HL0 := zf.mk hc0_0;have HL1 := zf.mk hc0_1;have HM := zf.mk hm;have hW : ∃ w2, w.alloc (.cells #[.slice Ye vk.length Yf, .slice Xb vw.length Yo] 25) = w2 ∧ w2.heap[w.heap.size]? = some (.cells #[.slice Ye vk.length Yf, .slice Xb vw.length Yo] 25 (0, 0)) ∧ Below w.heap.size w w2 := ⟨_, rfl, heap_alloc_new w _, (Below.refl _ _).alloc (Nat.le_refl _) _⟩;obtain ⟨w2, hw2, hb2, hB2⟩ := hW;have HW2 := zf.mk hw2;have BP2 := zf.mk hb2;have HB2 := zf.mk hB2;have OM := zf.mk (X4.calls k Ye Yf vk m w2 (Kd.Zq hr0_0 hB2) hc0_0 hm);clear hr0_0 hr0_1 hc0_0 hc0_1 hm hw2 hb2 hB2;cases m with
 | false =>
  simp only [Bool.false_eq_true, if_false, Option.some.injEq] at h;obtain rfl := h;have HS := zf.mk (show w2.heap.size = w2.heap.size from rfl);go_enter Tryz.func9, Tryz.ntmps9;go_wp2_with fail
  rw [HW2.out];refine OM.out.mono ?_;rintro e w3 ⟨rfl, hb3⟩;have BP3 := zf.mk (zy BP2.out hb3);have HB3 := zf.mk (HB2.out.trans (hb3.mono HB2.out.size));have p0 : w3.cell? ⟨w.heap.size, 0, none⟩ = some (.slice Ye vk.length Yf) := yc BP3.out 0;have p1 : w3.cell? ⟨w.heap.size, 1, none⟩ = some (.slice Xb vw.length Yo) := yc BP3.out 1;clear hb3;go_wp2_with fail
  go_ret;exact ⟨rfl, HB3.out⟩
 | true =>
  simp only [if_true] at h;by_cases hc : vk.length ≤ 4 ∧ (vk.all fun o => decide (o.f0.size ≤ 1000)) = true
  ·
   rw [if_pos hc] at h;obtain ⟨h4, hall⟩ := hc;have hsz : ∀ o ∈ vk, o.f0.size ≤ 1000 := fun o ho => of_decide_eq_true (List.all_eq_true.1 hall o ho)
   have HSZ := zf.mk hsz;clear hall hsz;cases ht : twiceGo [] vk
   ·
    rw [ht] at h;simp only [Bool.false_eq_true, if_false] at h;replace h := Option.bind_eq_some_iff.mp h;obtain ⟨sh, hsh, h⟩ := h;have HT := zf.mk ht;have HSH := zf.mk hsh;clear ht hsh;cases sh
    ·
     simp only [Bool.false_eq_true, if_false, Option.some.injEq] at h;obtain rfl := h;have HS := zf.mk (show w2.heap.size = w2.heap.size from rfl);go_enter Tryz.func9, Tryz.ntmps9;go_wp2_with fail
     rw [HW2.out];refine OM.out.mono ?_;rintro e w3 ⟨rfl, hb3⟩;have BP3 := zf.mk (zy BP2.out hb3);have HB3 := zf.mk (HB2.out.trans (hb3.mono HB2.out.size));have p0 : w3.cell? ⟨w.heap.size, 0, none⟩ = some (.slice Ye vk.length Yf) := yc BP3.out 0;have p1 : w3.cell? ⟨w.heap.size, 1, none⟩ = some (.slice Xb vw.length Yo) := yc BP3.out 1;clear hb3;go_wp2_with fail
     refine (zed Ye Yf vk w3 (Kd.Zq HC0.out HB3.out) h4 HSZ.out).mono ?_;rintro e w4 ⟨rfl, hb4⟩;rw [HT.out];have BP4 := zf.mk (zy BP3.out hb4);have HB4 := zf.mk (HB3.out.trans (hb4.mono HB3.out.size));have p0 : w4.cell? ⟨w.heap.size, 0, none⟩ = some (.slice Ye vk.length Yf) := yc BP4.out 0;have p1 : w4.cell? ⟨w.heap.size, 1, none⟩ = some (.slice Xb vw.length Yo) := yc BP4.out 1;clear hb4;go_wp2_with fail
     refine (Yb.calls k Xb Yo vw false false w4 (Kd.Zq HC1.out HB4.out) HL1.out HSH.out).mono ?_;rintro e w5 ⟨rfl, hb5⟩;have BP5 := zf.mk (zy BP4.out hb5);have HB5 := zf.mk (HB4.out.trans (hb5.mono HB4.out.size));have p1 : w5.cell? ⟨w.heap.size, 1, none⟩ = some (.slice Xb vw.length Yo) := yc BP5.out 1;clear hb5;go_wp2_with fail
     go_ret;exact ⟨rfl, HB5.out⟩
    ·
     simp only [if_true] at h;by_cases h512 : vw.length ≤ 512
     ·
      rw [if_pos h512] at h;have H := zf.mk h;clear h;have HS := zf.mk (show w2.heap.size = w2.heap.size from rfl);go_enter Tryz.func9, Tryz.ntmps9;go_wp2_with fail
      rw [HW2.out];refine OM.out.mono ?_;rintro e w3 ⟨rfl, hb3⟩;have BP3 := zf.mk (zy BP2.out hb3);have HB3 := zf.mk (HB2.out.trans (hb3.mono HB2.out.size));have p0 : w3.cell? ⟨w.heap.size, 0, none⟩ = some (.slice Ye vk.length Yf) := yc BP3.out 0;have p1 : w3.cell? ⟨w.heap.size, 1, none⟩ = some (.slice Xb vw.length Yo) := yc BP3.out 1;clear hb3;go_wp2_with fail
      refine (zed Ye Yf vk w3 (Kd.Zq HC0.out HB3.out) h4 HSZ.out).mono ?_;rintro e w4 ⟨rfl, hb4⟩;rw [HT.out];have BP4 := zf.mk (zy BP3.out hb4);have HB4 := zf.mk (HB3.out.trans (hb4.mono HB3.out.size));have p0 : w4.cell? ⟨w.heap.size, 0, none⟩ = some (.slice Ye vk.length Yf) := yc BP4.out 0;have p1 : w4.cell? ⟨w.heap.size, 1, none⟩ = some (.slice Xb vw.length Yo) := yc BP4.out 1;clear hb4;go_wp2_with fail
      refine (Yb.calls k Xb Yo vw false true w4 (Kd.Zq HC1.out HB4.out) HL1.out HSH.out).mono ?_;rintro e w5 ⟨rfl, hb5⟩;have BP5 := zf.mk (zy BP4.out hb5);have HB5 := zf.mk (HB4.out.trans (hb5.mono HB4.out.size));have p1 : w5.cell? ⟨w.heap.size, 1, none⟩ = some (.slice Xb vw.length Yo) := yc BP5.out 1;clear hb5;go_wp2_with fail
      refine (within.calls k w.heap.size Ye vk.length Yf Xb Yo vw ((vw.length : Int) - 1) 0 r w5 BP5.out (Kd.Zq HC1.out HB5.out) H.out).mono ?_;rintro e w6 ⟨rfl, hb6⟩;have HB6 := zf.mk (HB5.out.trans (hb6.mono HB5.out.size));clear hb6;go_wp2_with fail
      go_ret;exact ⟨rfl, HB6.out⟩
     ·
      rw [if_neg h512] at h;cases h
   ·
    rw [ht] at h;simp only [if_true, Option.some.injEq] at h;obtain rfl := h;have HT := zf.mk ht;clear ht;have HS := zf.mk (show w2.heap.size = w2.heap.size from rfl);go_enter Tryz.func9, Tryz.ntmps9;go_wp2_with fail
    rw [HW2.out];refine OM.out.mono ?_;rintro e w3 ⟨rfl, hb3⟩;have BP3 := zf.mk (zy BP2.out hb3);have HB3 := zf.mk (HB2.out.trans (hb3.mono HB2.out.size));have p0 : w3.cell? ⟨w.heap.size, 0, none⟩ = some (.slice Ye vk.length Yf) := yc BP3.out 0;have p1 : w3.cell? ⟨w.heap.size, 1, none⟩ = some (.slice Xb vw.length Yo) := yc BP3.out 1;clear hb3;go_wp2_with fail
    refine (zed Ye Yf vk w3 (Kd.Zq HC0.out HB3.out) h4 HSZ.out).mono ?_;rintro e w4 ⟨rfl, hb4⟩;rw [HT.out];have BP4 := zf.mk (zy BP3.out hb4);have HB4 := zf.mk (HB3.out.trans (hb4.mono HB3.out.size));have p0 : w4.cell? ⟨w.heap.size, 0, none⟩ = some (.slice Ye vk.length Yf) := yc BP4.out 0;have p1 : w4.cell? ⟨w.heap.size, 1, none⟩ = some (.slice Xb vw.length Yo) := yc BP4.out 1;clear hb4;go_wp2_with fail
    go_ret;exact ⟨rfl, HB4.out⟩
  ·
   rw [if_neg hc] at h;cases h
def resQ (k : Nat) (l0 : List S42) (l1 : List S44) : Option (List S42 × List S44 × Int × Int) :=
 if treeMayS l0 l1 = true then (if l0.length ≤ 4 ∧ 1 ≤ l1.length ∧ l1.length ≤ 512 ∧ (l0.all fun o => decide (o.f0.size ≤ 1000)) = true then
  (if twiceGo [] l0 = true then some ([], [], 0, 602) else (rnode.f k l0 l1 ((l1.length : Int) - 1) []).bind fun p => match p.1 with
   | none => some (l0, p.2, 0, 0)
   | some (a, c) => if c = 0 then none else some ([], [], a, c)) else none) else some ([], [], 0, 600)
theorem res_Q (k : Nat) (hk : 1200 ≤ k) (l0 : List S42) (l1 : List S44) : Zy.f k l0 l1 = resQ k l0 l1 := by
 unfold Zy.f resQ;rw [zrq l0 l1 k hk, Option.bind_some];all_goals rfl
def mayQ (k : Nat) (l0 : List S42) (l1 : List S44) : Option Bool :=
 if opsMayS l0 = true then (if l0.length ≤ 4 ∧ (l0.all fun o => decide (o.f0.size ≤ 1000)) = true then
  (if twiceGo [] l0 = true then some false else if shapedS l1 false = true then (if l1.length ≤ 512 then within.f k (l0.length : Int) l1 ((l1.length : Int) - 1) 0 else none) else some false) else none) else some false
theorem may_Q (k : Nat) (hk : 1200 ≤ k) (l0 : List S42) (l1 : List S44) : Ya.f k l0 l1 = mayQ k l0 l1 := by
 unfold Ya.f mayQ;rw [zng l0 k (by omega), znf l1 false k hk, Option.bind_some];simp only [Option.bind_some]
def sameQ6 (l m : List S44) : Option Bool := if l.length < 1300 then some (eqNodes l m) else xg.f 1300 l m
theorem same_Q6 (l m : List S44) : xg.f 1300 l m = sameQ6 l m := by
 unfold sameQ6;split
 ·
  rename_i h
  exact zlp l m 1300 h (by omega)
 ·
  rfl
theorem zug : ∀ (n : Nat) (M : List ByteArray), M.length = n + 2 → ∃ a M' b, M = a :: (M' ++ [b]) ∧ M'.length = n
 | n, M, h => by
  match M, h with
  | a :: M2, h =>
   have h2 : M2 ≠ [] := by intro e; subst e; simp at h
   refine ⟨a, M2.dropLast, M2.getLast h2, by rw [List.dropLast_concat_getLast h2], by simp at h ⊢; omega⟩
theorem rev_loop : ∀ (n : Nat) (P M S : List ByteArray) (k : Nat), M.length = n → n < k → (P ++ M ++ S).length ≤ 1000000 →
  xe.l0 k (P ++ M ++ S) (P.length : Int) ((P.length : Int) + (M.length : Int) - 1) = some (P ++ M.reverse ++ S) := by
 intro n;induction n using Nat.strongRecOn with
 | _ n ih =>
  intro P M S k hn hk hl;obtain ⟨k, rfl⟩ : ∃ m, k = m + 1 := ⟨k - 1, by omega⟩;rw [xe.l0];match n, hn with
  | 0, hn =>
   obtain rfl := List.eq_nil_of_length_eq_zero hn;rw [if_neg (by simp; omega)];rfl
  | 1, hn =>
   obtain ⟨a, rfl⟩ := List.length_eq_one_iff.1 hn;rw [if_neg (by simp)];rfl
  | n + 2, hn =>
   obtain ⟨a, M', b, rfl, hM⟩ := zug n M hn;simp only [List.length_cons, List.length_append, List.length_nil] at hl hn;have e3 : (P.length : Int) + ((a :: (M' ++ [b])).length : Int) - 1 = ((P.length + 1 + M'.length : Nat) : Int) := by simp; omega
   rw [e3, if_pos (by omega), if_pos (by omega), if_pos (by simp; omega), if_pos (by omega), if_pos (by simp; omega)];have g2 : rdOf ByteArray.empty (P ++ a :: (M' ++ [b]) ++ S) (P.length : Int) = a := by
    rw [rdOf, Int.toNat_natCast, List.getD_eq_getElem?_getD, List.append_assoc, List.getElem?_append_right (Nat.le_refl _), Nat.sub_self];rfl
   have g3 : rdOf ByteArray.empty (P ++ a :: (M' ++ [b]) ++ S) ((P.length + 1 + M'.length : Nat) : Int) = b := by
    rw [rdOf, Int.toNat_natCast, List.getD_eq_getElem?_getD, show P ++ a :: (M' ++ [b]) ++ S = (P ++ a :: M') ++ (b :: S) from by simp, List.getElem?_append_right (by simp; omega)];rw [show P.length + 1 + M'.length - (P ++ a :: M').length = 0 from by simp; omega];rfl
   rw [g2, g3, Int.toNat_natCast, Int.toNat_natCast];have s1 : (P ++ a :: (M' ++ [b]) ++ S).set P.length b = P ++ b :: (M' ++ [b]) ++ S := by
    rw [List.append_assoc, List.set_append_right _ _ (Nat.le_refl _), Nat.sub_self];simp
   have s2 : (P ++ b :: (M' ++ [b]) ++ S).set (P.length + 1 + M'.length) a = (P ++ [b]) ++ M' ++ (a :: S) := by
    rw [show P ++ b :: (M' ++ [b]) ++ S = (P ++ b :: M') ++ (b :: S) from by simp, List.set_append_right _ _ (by simp; omega), show P.length + 1 + M'.length - (P ++ b :: M').length = 0 from by simp; omega];simp
   rw [s1, s2, show wrap64 ((P.length : Int) + 1) = ((P ++ [b]).length : Int) from by unfold wrap64; simp; omega,
    show wrap64 (((P.length + 1 + M'.length : Nat) : Int) - 1) = ((P ++ [b]).length : Int) + (M'.length : Int) - 1 from by unfold wrap64; simp; omega]
   rw [ih n (by omega) (P ++ [b]) M' (a :: S) k hM (by omega) (by simp; omega)];simp
theorem rev_is (l : List ByteArray) (k : Nat) (hk : l.length < k) (hl : l.length ≤ 1000000) : xe.f k l = some l.reverse := by
 have h := rev_loop l.length [] l [] k rfl hk (by simpa using hl);unfold xe.f;rw [show wrap64 ((l.length : Int) - 1) = (l.length : Int) - 1 from by unfold wrap64; omega];simpa using h
def posOf (s : ByteArray) : List ByteArray → Nat → Int
 | [], _ => -1
 | x :: xs, i => if s = x then (i : Int) else posOf s xs (i + 1)
theorem idx_loop (l : List ByteArray) (s : ByteArray) (hl : l.length ≤ 1000000) : ∀ (n i k : Nat), l.length - i = n → n < k → i ≤ l.length →
  xq.l0 k l s (l.length : Int) (i : Int) = some (posOf s (l.drop i) i) := by
 intro n;induction n with
 | zero =>
  intro i k hn hk hi;obtain ⟨k, rfl⟩ : ∃ m, k = m + 1 := ⟨k - 1, by omega⟩;rw [xq.l0, if_neg (by omega), List.drop_eq_nil_of_le (by omega)];rfl
 | succ n ih =>
  intro i k hn hk hi;obtain ⟨k, rfl⟩ : ∃ m, k = m + 1 := ⟨k - 1, by omega⟩;have hlt : i < l.length := by omega
  rw [xq.l0, if_pos (by omega), if_pos (by omega), if_pos (by omega), List.drop_eq_getElem_cons hlt, posOf];have e : rdOf ByteArray.empty l (i : Int) = l[i] := by
   rw [rdOf, Int.toNat_natCast, List.getD_eq_getElem?_getD, List.getElem?_eq_getElem hlt];rfl
  rw [e];by_cases h : s = l[i]
  ·
   rw [if_pos h, if_pos (by rw [h])]
  ·
   rw [if_neg h, if_neg (fun h' => h (toList_inj.1 h')), show wrap64 ((i : Int) + 1) = ((i + 1 : Nat) : Int) from by unfold wrap64; omega];exact ih (i + 1) k (by omega) (by omega) (by omega)
theorem zql (l : List ByteArray) (s : ByteArray) (k : Nat) (hk : l.length < k) (hl : l.length ≤ 1000000) : xq.f k l s = some (posOf s l 0) := by
 have h := idx_loop l s hl l.length 0 k rfl hk (Nat.zero_le _);simpa [xq.f] using h
theorem zqm (s : ByteArray) : ∀ l i, posOf s l i = -1 ∨ ((i : Int) ≤ posOf s l i ∧ posOf s l i < (i : Int) + (l.length : Int))
 | [], i => .inl rfl
 | x :: xs, i => by
  unfold posOf;by_cases h : s = x
  ·
   rw [if_pos h]; right; simp; omega
  ·
   rw [if_neg h];rcases zqm s xs (i + 1) with h | h
   ·
    exact .inl h
   ·
    right; simp at h ⊢; omega
theorem rd_some (l : List S44) (i : Nat) (x : S44) (h : l[i]? = some x) : zl l (i : Int) = x := by
 rw [zl, Int.toNat_natCast, List.getD_eq_getElem?_getD, h];rfl
def Segs (l : List S44) : List Int → Nat → Nat → Prop
 | [], b, e => b = e
 | c :: cs, b, e => ∃ cn : Nat, c = (cn : Int) ∧ b ≤ cn ∧ cn < e ∧ beginS l (cn : Int) = (b : Int) ∧ Segs l cs (cn + 1) e
theorem zse (l : List S44) : ∀ cs b e, Segs l cs b e → b ≤ e
 | [], b, e, h => Nat.le_of_eq h
 | c :: cs, b, e, ⟨cn, _, h1, h2, _, h⟩ => by omega
theorem znh (l : List S44) (cn m e : Nat) (h1 : beginS l (cn : Int) = (m : Int)) (h2 : m ≤ cn) (h3 : cn + 1 = e) : ∀ cs b, Segs l cs b m → Segs l (cs ++ [(cn : Int)]) b e
 | [], b, h => by
  obtain rfl : b = m := h;exact ⟨cn, rfl, h2, by omega, h1, h3⟩
 | c :: cs, b, ⟨dn, e1, e2, e3, e4, h⟩ => ⟨dn, e1, e2, by omega, e4, znh l cn m e h1 h2 h3 cs (dn + 1) h⟩
theorem zsf (l : List S44) (hl : l.length ≤ 512) (k : Nat) : ∀ (ds : List Int) (a r : Nat), a ≤ l.length → goB (Y4.f k l) ds (a : Int) = some (r : Int) → Segs l ds.reverse r a
 | [], a, r, ha, h => by
  have h := Option.some.inj h;show r = a;omega
 | d :: ds, a, r, ha, h => by
  rw [goB] at h;by_cases g : wrap64 ((a : Int) - 1) < 0
  ·
   rw [if_pos g] at h;have := Option.some.inj h;omega
  ·
   rw [if_neg g] at h;have hw : wrap64 ((a : Int) - 1) = (a : Int) - 1 := by unfold wrap64; omega
   rw [hw] at h g;by_cases g2 : d = (a : Int) - 1
   ·
    rw [if_pos g2] at h;obtain ⟨r2, hr2, h⟩ := Option.bind_eq_some_iff.mp h;by_cases g3 : r2 < 0
    ·
     rw [if_pos g3] at h;have := Option.some.inj h;omega
    ·
     rw [if_neg g3] at h;obtain ⟨m, rfl⟩ := Int.eq_ofNat_of_zero_le (show 0 ≤ r2 by omega);have hb : beginS l (((a - 1 : Nat)) : Int) = (m : Int) := by
      have e1 := zfc (Y4.mono l ((a : Int) - 1)) (show k ≤ k + l.length + 1 by omega) hr2;have e2 := zgy l ((a : Int) - 1) (k + l.length + 1) (by omega) (by omega) (by omega) (by omega);rw [e1] at e2;rw [show (((a - 1 : Nat)) : Int) = (a : Int) - 1 by omega];exact (Option.some.inj e2).symm
     have hr := zcl l (((a - 1 : Nat)) : Int) (by omega) (by omega) (by omega);have ih := zsf l hl k ds m r (by omega) h;rw [List.reverse_cons, g2, show (a : Int) - 1 = ((a - 1 : Nat) : Int) by omega];exact znh l (a - 1) m a hb (by omega) (by omega) _ _ ih
   ·
    rw [if_neg g2] at h;have := Option.some.inj h;omega
theorem zgb (l : List S44) (hl : l.length ≤ 512) (a b : Nat) (x : S44) (hx : l[a]? = some x) (hb : beginS l (a : Int) = (b : Int)) : Segs l (kidsOf x) b a := by
 have ha : a < l.length := (List.getElem?_eq_some_iff.1 hx).1;have e := zgy l (a : Int) (l.length + 1) (by omega) (by omega) (by omega) (by omega);rw [hb, Y4.f, if_pos (by omega), if_pos (by omega), rd_some l a x hx] at e;have h := zsf l hl l.length _ a b (by omega) e;rwa [List.reverse_reverse] at h
theorem zqn (x : S44) (i : Nat) (hi : i < 3) : ((boundOf x i).length : Int) = bndOf x.f0 i := by
 have h3 : i = 0 ∨ i = 1 ∨ i = 2 := by omega
 unfold boundOf bndOf bindsOf;rcases h3 with rfl | rfl | rfl <;> (repeat' split) <;> simp_all
theorem zqo (s : ByteArray) : ∀ os i, opIdx s os i = -1 ∨ ((i : Int) ≤ opIdx s os i ∧ opIdx s os i < (i : Int) + (os.length : Int))
 | [], i => .inl rfl
 | o :: os, i => by
  unfold opIdx;split
  ·
   right; simp; omega
  ·
   rcases zqo s os (i + 1) with h | h
   ·
    exact .inl h
   ·
    right; simp at h ⊢; omega
def okV (x : S44) (v : Int) : Prop := 0 ≤ v ∧ (¬ (x.f0 = 0 ∨ x.f0 = 9 ∨ x.f0 = 10) → v = x.f4)
theorem may_num (x : S44) (h : mayS x true = true) : 0 ≤ x.f4 := by
 simp only [mayS, Bool.and_eq_true, Bool.or_eq_true, decide_eq_true_eq, if_true] at h;obtain ⟨_, _, _, _, h5, _, h7⟩ := h;by_cases hm : mostN x.f0 < 0
 ·
  have hc : ¬ (0 ≤ mostN x.f0 ∨ (true = false ∧ (x.f0 = 0 ∨ x.f0 = 9 ∨ x.f0 = 10))) := by simp; omega
  rw [if_neg hc] at h7;have hf : (noKids (noNames x)).f4 = x.f4 := by
   unfold noKids noNames
   (repeat' split) <;> rfl
  simp only [bareNode, Bool.and_eq_true, beq_iff_eq] at h7;rw [← hf];omega
 ·
  rcases h5 with h5 | h5 <;> omega
def Done (l ns : List S44) (b e : Nat) : Prop := ∀ i, b ≤ i → i < e → ∃ x v, l[i]? = some x ∧ ns[i]? = some (blankN x v) ∧ okV x v
theorem zo2 (l : List S44) (hl : l.length ≤ 512) (no : Int) : ∀ (n a : Nat) (k : Nat) (names : Int) (m m' : List S44) (b : Nat), a = n → m.length = l.length → m'.length = l.length → beginS l (a : Int) = (b : Int) → Done l m b (a + 1) → (∀ i, b ≤ i → i ≤ a → m'[i]? = m[i]?) → within.f k no m' (a : Int) names = within.f k no m (a : Int) names := by
 intro n;induction n using Nat.strongRecOn with
 | _ n ih =>
  intro a k names m m' b hn hm hm' hb hd he;subst hn;cases k with
  | zero => rfl
  | succ k =>
   by_cases ha : a < l.length
   ·
    have hr := zcl l (a : Int) (by omega) (by omega) (by omega);obtain ⟨x, v, hx, hmx, _⟩ := hd a (by omega) (by omega);have hmx' := (he a (by omega) (Nat.le_refl _)).trans hmx;have hs := zgb l hl a b x hx hb;rw [within.f, within.f, hm, hm', rd_some m a _ hmx, rd_some m' a _ hmx'];have go : ∀ (cs : List Int) (i b2 : Nat), b ≤ b2 → Segs l cs b2 a → goW (within.f k no m') (blankN x v) names cs i = goW (within.f k no m) (blankN x v) names cs i := by
     intro cs;induction cs with
     | nil => intro i b2 _ _; rfl
     | cons c cs ihc =>
      rintro i b2 hb2 ⟨cn, rfl, h1, h2, h3, h4⟩;rw [goW, goW, ih cn h2 cn k (names + bndOf (blankN x v).f0 i) m m' b2 rfl hm hm' h3 (fun j hj hj2 => hd j (by omega) (by omega)) (fun j hj hj2 => he j (by omega) (by omega)), ihc (i + 1) (cn + 1) (by omega) h4]
    have := go (kidsOf x) 0 b (Nat.le_refl _) hs;simp only [show kidsOf (blankN x v) = kidsOf x from rfl, this]
   ·
    rw [within.f, within.f, if_neg (by rw [hm']; omega), if_neg (by rw [hm]; omega)]
theorem zqp (no : Int) (m : List S44) (a k : Nat) (names : Int) (x : S44) (v : Int) (ha : a < m.length) (hn0 : 0 ≤ names) (hn1 : names ≤ 100000) (hm : m[a]? = some (blankN x v))
  (hv : (x.f0 = 0 → 0 ≤ v ∧ v < names) ∧ ((x.f0 = 9 ∨ x.f0 = 10) → 0 ≤ v ∧ v < no)) (hg : goW (within.f k no m) (blankN x v) names (kidsOf x) 0 = some true) : within.f (k + 1) no m (a : Int) names = some true := by
 rw [within.f, if_pos ⟨by omega, by omega, hn0, hn1⟩, rd_some m a _ hm];show (Yt.f x.f0).bind _ = _;have hN : ∃ nb, Yt.f x.f0 = some nb ∧ (nb = true → x.f0 = 0 ∨ x.f0 = 9 ∨ x.f0 = 10) := by
  unfold Yt.f;by_cases h0 : x.f0 = 0
  ·
   exact ⟨true, by rw [if_pos h0], fun _ => .inl h0⟩
  ·
   by_cases h9 : x.f0 = 9
   ·
    exact ⟨true, by rw [if_neg h0, if_pos h9], fun _ => .inr (.inl h9)⟩
   ·
    exact ⟨x.f0 == 10, by rw [if_neg h0, if_neg h9], fun h => .inr (.inr (by simpa using h))⟩
 obtain ⟨nb, hnb, hnn⟩ := hN;rw [hnb, Option.bind_some, if_neg]
 ·
  exact hg
 ·
  rintro ⟨h1, h2⟩;have h2 : v < 0 ∨ v ≥ (if x.f0 = 0 then names else no) := h2;rcases hnn h1 with h | h | h
  ·
   have := hv.1 h;rw [if_pos h] at h2;omega
  ·
   have := hv.2 (.inl h);rw [if_neg (by omega)] at h2;omega
  ·
   have := hv.2 (.inr h);rw [if_neg (by omega)] at h2;omega
theorem zuh {l m m' : List S44} {b e : Nat} (h : Done l m b e) (he : ∀ i, b ≤ i → i < e → m'[i]? = m[i]?) : Done l m' b e := fun i h1 h2 => by
 obtain ⟨x, v, hx, hm, hv⟩ := h i h1 h2;exact ⟨x, v, hx, (he i h1 h2).trans hm, hv⟩
theorem zui {l m : List S44} {b c e : Nat} (h1 : Done l m b c) (h2 : Done l m c e) : Done l m b e := fun i hb he => by
 by_cases h : i < c
 ·
  exact h1 i hb h
 ·
  exact h2 i (by omega) he
def Did (L ns ns' : List S44) (b e : Nat) (r : Option (Int × Int)) : Prop :=
 ns'.length = L.length ∧ (∀ i, (i < b ∨ e ≤ i) → ns'[i]? = ns[i]?) ∧ (r = none → Done L ns' b e) ∧ ∀ ea ec, r = some (ea, ec) → 0 ≤ ea ∧ (ec = 601 ∨ ec = 602)
theorem zjn (l : List S44) (ops : List S42) (hall : ∀ x ∈ l, mayS x true = true) (hl : l.length ≤ 512) (hops : ops.length ≤ 4) : ∀ (n a k : Nat) (ns : List S44) (env : List ByteArray) (b : Nat), a = n → a < l.length → beginS l (a : Int) = (b : Int) → ns.length = l.length → (∀ i, b ≤ i → i ≤ a → ns[i]? = l[i]?) → env.length + 2 * (a + 1) ≤ 1500 → a + 1600 ≤ k →
  ∃ r ns', rnode.f k ops ns (a : Int) env = some (r, ns') ∧ Did l ns ns' b (a + 1) r ∧ (r = none → ∀ kk, a < kk → within.f kk (ops.length : Int) ns' (a : Int) (env.length : Int) = some true) := by
 intro n;induction n using Nat.strongRecOn with
 | _ n ih =>
  intro a k ns env b hn ha hb hns hf he hk;subst hn;obtain ⟨k, rfl⟩ : ∃ m, k = m + 1 := ⟨k - 1, by omega⟩;have hr := zcl l (a : Int) (by omega) (by omega) (by omega);rw [hb] at hr;have hba : b ≤ a := by omega
  have hxl : l[a]? = some l[a] := List.getElem?_eq_getElem ha;have hx : ns[a]? = some l[a] := (hf a hba (Nat.le_refl _)).trans hxl;have hmay := hall l[a] (List.getElem_mem ha);have hs := zgb l hl a b l[a] hxl hb;have hlt : a < ns.length := by omega
  generalize l[a] = x at *;have hset : ∀ v, (ns.set a (blankN x v))[a]? = some (blankN x v) := fun v => List.getElem?_set_self hlt
  have go : ∀ (v : Int) (cs : List Int) (i b2 : Nat) (ns2 : List S44), i + cs.length ≤ 3 → b ≤ b2 → Segs l cs b2 a → ns2.length = l.length → (∀ j, b2 ≤ j → j < a → ns2[j]? = l[j]?) →
    ∃ r ns', goKids (rnode.f k ops) x env cs i ns2 = some (r, ns') ∧ Did l ns2 ns' b2 a r ∧ (r = none → ∀ kk, a ≤ kk → goW (within.f kk (ops.length : Int) ns') (blankN x v) (env.length : Int) cs i = some true) := by
   intro v cs;induction cs with
   | nil =>
    intro i b2 ns2 _ _ hsg hn2 _;obtain rfl : b2 = a := hsg;exact ⟨none, ns2, rfl, ⟨hn2, fun _ _ => rfl, fun _ j h1 h2 => absurd h1 (by omega), fun _ _ h => by cases h⟩, fun _ _ _ => rfl⟩
   | cons c cs ihc =>
    rintro i b2 ns2 hi hb2 ⟨cn, rfl, h1, h2, h3, h4⟩ hn2 hf2;simp only [List.length_cons] at hi;have hlen := zqn x i (by omega);have hle := zdh x i;obtain ⟨r1, ns3, e1, ⟨d1, d2, d3, d4⟩, w1⟩ := ih cn h2 cn k ns2 (env ++ boundOf x i) b2 rfl (by omega) h3 hn2 (fun j hj hj2 => hf2 j hj (by omega)) (by rw [List.length_append]; omega) (by omega);rw [goKids, e1, Option.bind_some];cases r1 with
    | some e =>
     refine ⟨some e, ns3, rfl, ⟨d1, fun j hj => d2 j (by omega), (fun h => by cases h), d4⟩, (fun h => by cases h)⟩
    | none =>
     obtain ⟨r2, ns4, e2, ⟨f1, f2, f3, f4⟩, w2⟩ := ihc (i + 1) (cn + 1) ns3 (by omega) (by omega) h4 d1 (fun j hj hj2 => (d2 j (by omega)).trans (hf2 j (by omega) hj2));have hle2 := zse l cs (cn + 1) a h4;refine ⟨r2, ns4, e2, ⟨f1, fun j hj => (f2 j (by omega)).trans (d2 j (by omega)), fun h => zui (zuh (d3 rfl) (fun j hj hj2 => f2 j (by omega))) (f3 h), f4⟩, fun h kk hkk => ?_⟩;have hw := w1 rfl kk (by omega);rw [List.length_append] at hw;rw [goW, show ((env.length : Int) + bndOf (blankN x v).f0 i) = ((env.length + (boundOf x i).length : Nat) : Int) from by show (env.length : Int) + bndOf x.f0 i = _; rw [← hlen]; omega];rw [zo2 l hl (ops.length : Int) cn cn kk _ ns3 ns4 b2 rfl d1 f1 h3 (d3 rfl) (fun j hj hj2 => f2 j (by omega)), hw, Option.bind_some, if_pos rfl];exact w2 h kk hkk
  have fin : ∀ v, okV x v → ((x.f0 = 0 → 0 ≤ v ∧ v < (env.length : Int)) ∧ ((x.f0 = 9 ∨ x.f0 = 10) → 0 ≤ v ∧ v < (ops.length : Int))) → ∃ r ns', goKids (rnode.f k ops) x env (kidsOf x) 0 (ns.set a (blankN x v)) = some (r, ns') ∧ Did l ns ns' b (a + 1) r ∧ (r = none → ∀ kk, a < kk → within.f kk (ops.length : Int) ns' (a : Int) (env.length : Int) = some true) := by
   intro v hv hvv;have h3 : (kidsOf x).length ≤ 3 := by unfold kidsOf; rw [List.length_take]; simp; omega
   obtain ⟨r, ns', e1, ⟨d1, d2, d3, d4⟩, w⟩ := go v (kidsOf x) 0 b (ns.set a (blankN x v)) (by omega) (Nat.le_refl _) hs (by simp [hns]) (fun j hj hj2 => by rw [List.getElem?_set_ne (by omega)]; exact hf j hj (by omega));have hat : ns'[a]? = some (blankN x v) := (d2 a (by omega)).trans (hset v);refine ⟨r, ns', e1, ⟨d1, fun j hj => ?_, fun h j hj hj2 => ?_, d4⟩, fun h kk hkk => ?_⟩
   ·
    rw [d2 j (by omega), List.getElem?_set_ne (by omega)]
   ·
    by_cases hja : j = a
    ·
     subst hja;exact ⟨x, v, hxl, hat, hv⟩
    ·
     exact d3 h j hj (by omega)
   ·
    obtain ⟨kk, rfl⟩ : ∃ m, kk = m + 1 := ⟨kk - 1, by omega⟩;exact zqp (ops.length : Int) ns' a kk (env.length : Int) x v (by omega) (by omega) (by omega) hat hvv (w h kk (by omega))
  have err : ∀ (v : Int) (ec : Int), (ec = 601 ∨ ec = 602) → ∃ r ns', (some (some (x.f9, ec), ns.set a (blankN x v)) : Option (Option (Int × Int) × List S44)) = some (r, ns') ∧ Did l ns ns' b (a + 1) r ∧ (r = none → ∀ kk, a < kk → within.f kk (ops.length : Int) ns' (a : Int) (env.length : Int) = some true) := by
   intro v ec hec;have h9 : 0 ≤ x.f9 := by
    simp only [mayS, Bool.and_eq_true, decide_eq_true_eq] at hmay;exact hmay.2.2.1
   refine ⟨_, _, rfl, ⟨by simp [hns], fun j hj => by rw [List.getElem?_set_ne (by omega)], (fun h => by cases h), (fun ea ec2 h => by cases h; exact ⟨h9, hec⟩)⟩, (fun h => by cases h)⟩
  have h4 := may_num x hmay;rw [rnode.f, if_pos ⟨by omega, by omega, by omega, hops⟩, rd_some ns a x hx, Int.toNat_natCast];by_cases c0 : x.f0 = 0
  ·
   simp only [if_pos c0];rw [rev_is env k (by omega) (by omega), Option.bind_some, zql _ _ k (by simp; omega) (by simp; omega), Option.bind_some];have hp := zqm x.f5 env.reverse 0;rw [List.length_reverse] at hp;by_cases hi : posOf x.f5 env.reverse 0 < 0
   ·
    rw [if_pos hi];exact err _ 601 (.inl rfl)
   ·
    rw [if_neg hi];have h := fin (posOf x.f5 env.reverse 0) ⟨by omega, fun h => absurd (.inl c0) h⟩ ⟨fun _ => by omega, fun h => by omega⟩;rw [show kidsOf x = [] from by unfold kidsOf kidsN; simp [c0]] at h;exact h
  ·
   simp only [if_neg c0];by_cases c9 : x.f0 = 9 ∨ x.f0 = 10
   ·
    simp only [if_pos c9];have hp := zqo x.f5 ops 0;by_cases hi : opIdx x.f5 ops 0 < 0
    ·
     rw [if_pos hi];exact err _ 602 (.inr rfl)
    ·
     rw [if_neg hi];exact fin _ ⟨by omega, fun h => absurd (.inr c9) h⟩ ⟨fun h => absurd h c0, fun _ => by omega⟩
   ·
    simp only [if_neg c9];exact fin _ ⟨h4, fun _ => rfl⟩ ⟨fun h => absurd h c0, fun h => absurd h c9⟩
theorem eqA42 (d : Nat) (w : World) (x0 y0 : ByteArray) (x1 y1 : Int) (x2 y2 : Int) :
  (Op.equalIn (d + 2) 42 (.agg #[.string x0, .int .i64 x1, .int .i64 x2]) (.agg #[.string y0, .int .i64 y1, .int .i64 y2])).run Tryz.prog w = .ok (x0.toList == y0.toList && (x1 == y1 && (x2 == y2))) w := by
 refine eqA_of Tryz.underlying42 (by kernel_rfl) ?_;refine zch (by rfl) (by go_simp; rfl) (by go_simp; rfl) (by go_simp) ?_;refine zch (by rfl) (by go_simp; rfl) (by go_simp; rfl) (by go_simp) ?_;exact zpv (by rfl) (by go_simp; rfl) (by go_simp; rfl) (by go_simp)
end Go.Proofs.YtfcjpkkglffnmaaGreatDoor.H
