/- Several texts in one: contracts of functions of the program, and what they lean on. In part written by a program of this session over the kit's print, in part by hand. -/
import Derived.Test.YtnogfhhfklkbiaaDoorT0
import Derived.WalkKit
import Derived.ProofKit
import Derived.OpenShut
import Derived.Below
import Derived.Lib.SmallJoins
import Derived.Deep.Slices
import Derived.Deep.Fields
import Derived.ChangeSame
import Derived.Test.YtnogfhhfklkbiaaDoorT3
import Derived.Test.YtnogfhhfklkbiaaDoorT5
import Derived.Laws.BitsLemmas
import Derived.RowKit
import Derived.Test.YtnogfhhfklkbiaaDoorT4
set_option linter.unusedVariables false
set_option linter.unusedSimpArgs false
namespace Go.Proofs.YtnogfhhfklkbiaaDoor.Open
open Go.RowKit Go.ChangeShapes Go.WideShapes Go.Deep Go.Joins Go.Proofs.YtnogfhhfklkbiaaDoorW.PrintWords Go.Proofs.YtnogfhhfklkbiaaDoorW.PrintLast Go.Proofs.YtnogfhhfklkbiaaDoorW.PrintMore Go.Proofs.YtnogfhhfklkbiaaDoor.H

variable {H : Type} {enc : TypeId × Value → H} {w : World} {base : Nat} {spare : Nat → Bool} {held : Bool}
theorem open_slice_fields {P : Program} {t e : TypeId} {fs : Array Field} {fuel : Nat} {cs : List Value} {x : DataW H × List MemPlace} (ht : P.underlying t = some (.slice e)) (he : P.underlying e = some (.struct fs))
    (hone : oneCellFields P fs = true) (hC : P.cellsOf e = fs.size) (h : DataW.trod enc P w base spare held fuel t cs = some x) :
    (cs = [.slice none 0 0] ∧ x = (.nil, [])) ∨
    ∃ (a : Addr) (len cap m : Nat) (D : Nat → DataW H) (Pl : Nat → List MemPlace), cs = [.slice (some a) len cap] ∧ base ≤ a.block ∧ len ≤ cap ∧ cap ≤ maxLen ∧ m = (if spare a.block then cap else len) ∧
      x = (.slice ((List.range len).map D) ((List.range (m - len)).map fun j => D (len + j)), MemPlace.row a (m * fs.size) ++ (List.range m).flatMap Pl) ∧
      ∀ i, i < m → ∃ (ys : List (DataW H × List MemPlace)) (n : Nat), D i = .agg (ys.map (·.1)) ∧ Pl i = ys.flatMap (·.2) ∧ ys.length = fs.size ∧
        ∀ (j : Nat) (f : Field), fs[j]? = some f → ∃ (v : Value) (y : DataW H × List MemPlace), w.cell? (a.add (i * fs.size + j)) = some v ∧ ys[j]? = some y ∧ DataW.trod enc P w base spare held n f.type [v] = some y := by
  rcases open_slice ht h with h0 | ⟨a, len, cap, m, n, D, Pl, hcs, hb, hl, hm, hmm, hx, hi⟩
  · exact .inl h0
  · refine .inr ⟨a, len, cap, m, D, Pl, hcs, hb, hl, hm, hmm, by rw [hC] at hx; exact hx, fun i him => ?_⟩
    obtain ⟨cs', hc, ht'⟩ := hi i him
    rw [hC] at hc
    obtain ⟨ys, n', hn', hy, hlen, hyl, hf⟩ := DataW.trod_struct he ht'
    obtain ⟨_, hcl, hat⟩ := World.cells?_some hc
    simp only [Prod.mk.injEq] at hy
    refine ⟨ys, n', hy.1, hy.2, hyl, fun j f hj => ?_⟩
    obtain ⟨ho, hk⟩ := hone_of hone j f hj
    have hjl : j < fs.size := (Array.getElem?_eq_some_iff.1 hj).1
    have hcell := hat j hjl
    have hv : cs'[j]? = some (cs'[j]'(by omega)) := List.getElem?_eq_getElem (by omega)
    have h1 := hf j f hj
    rw [ho, hk] at h1
    have hone' : (cs'.drop j).take 1 = [cs'[j]'(by omega)] := by
      rw [List.drop_eq_getElem_cons (by omega)]
      rfl
    rw [hone'] at h1
    have hys : ys[j]? = some (ys[j]'(by omega)) := List.getElem?_eq_getElem (by omega)
    refine ⟨_, _, ?_, hys, h1.trans hys⟩
    rw [← Go.Deep.add_add, hcell, hv]
/-- What is said of each element is said of a list. -/
theorem row_of {α : Type} (d : Kd α) {a : Addr} {len : Nat} (hl : len ≤ 9223372036854775807) (h : ∀ i, ∃ x, i < len → ∃ c : List Value, c.length = d.sz ∧ d.K w x c ∧ ∀ j u, c[j]? = some u → w.cell? (a.add (i * d.sz + j)) = some u) :
    ∃ xs : List α, xs.length = len ∧ Kd.C d w (some a) len xs := by
  obtain ⟨f, hf⟩ := Classical.axiomOfChoice h
  refine ⟨(List.range len).map f, by simp, by simp, hl, fun _ => ⟨a, rfl, fun j p hp => ?_⟩⟩
  have hj : j < len := by
    have := (List.getElem?_eq_some_iff.1 hp).1
    simpa using this
  obtain rfl : f j = p := by simpa [hj] using hp
  exact hf j hj
theorem open_ops {fuel : Nat} {c : Value} {x : DataW H × List MemPlace} (h : DataW.trod enc Tryd.prog w 0 (fun _ => true) held fuel 22 [c] = some x) :
    ∃ (A : Option Addr) (cap : Nat) (xs : List S48), c = .slice A xs.length cap ∧ xs.length ≤ cap ∧ Kd.C k48 w A xs.length xs := by
  rcases open_slice_fields Tryd.underlying22 Tryd.underlying48 (by kernel_rfl) (by kernel_rfl) h with ⟨hc, _⟩ | ⟨a, len, cap, m, D, Pl, hc, _, hl, hm, hmm, _, hi⟩
  · simp only [List.cons.injEq, and_true] at hc
    exact ⟨none, 0, [], hc, Nat.le_refl _, rfl, by simp, fun h => absurd h (by simp)⟩
  · simp only [List.cons.injEq, and_true] at hc
    simp only [if_true] at hmm
    subst hmm
    have hm' : m ≤ 9223372036854775807 := by have := hm; simp only [maxLen] at this; omega
    obtain ⟨xs, hx, hk⟩ := row_of (w := w) k48 (a := a) (len := len) (by omega) (fun i => by
      by_cases g : i < len
      · obtain ⟨ys, n, _, _, _, hf⟩ := hi i (by omega)
        obtain ⟨v0, y0, c0, _, t0⟩ := hf 0 _ rfl
        obtain ⟨v1, y1, c1, _, t1⟩ := hf 1 _ rfl
        obtain ⟨v2, y2, c2, _, t2⟩ := hf 2 _ rfl
        obtain ⟨s0, e0, _⟩ := DataW.trod_string Tryd.underlying9 t0
        obtain ⟨s1, e1, _⟩ := DataW.trod_int Tryd.underlying3 t1
        obtain ⟨s2, e2, _⟩ := DataW.trod_int Tryd.underlying3 t2
        simp only [List.cons.injEq, and_true] at e0 e1 e2
        subst e0 e1 e2
        refine ⟨⟨s0, s1, s2⟩, fun _ => ⟨_, rfl, k48_mk w ⟨s0, s1, s2⟩, fun j u hu => ?_⟩⟩
        have hj : j < 3 := (List.getElem?_eq_some_iff.1 hu).1
        rcases (show j = 0 ∨ j = 1 ∨ j = 2 by omega) with rfl | rfl | rfl
        · obtain rfl := Option.some.inj hu; exact c0
        · obtain rfl := Option.some.inj hu; exact c1
        · obtain rfl := Option.some.inj hu; exact c2
      · exact ⟨z48, fun h => absurd h g⟩)
    exact ⟨some a, m, xs, by rw [hx]; exact hc, by omega, by rw [hx]; exact hk⟩
theorem open_nodes {fuel : Nat} {c : Value} {x : DataW H × List MemPlace} (h : DataW.trod enc Tryd.prog w 0 (fun _ => true) held fuel 23 [c] = some x) :
    ∃ (A : Option Addr) (cap : Nat) (xs : List S45), c = .slice A xs.length cap ∧ xs.length ≤ cap ∧ Kd.C k45 w A xs.length xs := by
  rcases open_slice_fields Tryd.underlying23 Tryd.underlying45 (by kernel_rfl) (by kernel_rfl) h with ⟨hc, _⟩ | ⟨a, len, cap, m, D, Pl, hc, _, hl, hm, hmm, _, hi⟩
  · simp only [List.cons.injEq, and_true] at hc
    exact ⟨none, 0, [], hc, Nat.le_refl _, rfl, by simp, fun h => absurd h (by simp)⟩
  · simp only [List.cons.injEq, and_true] at hc
    simp only [if_true] at hmm
    subst hmm
    have hm' : m ≤ 9223372036854775807 := by have := hm; simp only [maxLen] at this; omega
    obtain ⟨xs, hx, hk⟩ := row_of (w := w) k45 (a := a) (len := len) (by omega) (fun i => by
      by_cases g : i < len
      · obtain ⟨ys, n, _, _, _, hf⟩ := hi i (by omega)
        obtain ⟨v0, y0, c0, _, t0⟩ := hf 0 _ rfl
        obtain ⟨v1, y1, c1, _, t1⟩ := hf 1 _ rfl
        obtain ⟨v2, y2, c2, _, t2⟩ := hf 2 _ rfl
        obtain ⟨v3, y3, c3, _, t3⟩ := hf 3 _ rfl
        obtain ⟨v4, y4, c4, _, t4⟩ := hf 4 _ rfl
        obtain ⟨v5, y5, c5, _, t5⟩ := hf 5 _ rfl
        obtain ⟨v6, y6, c6, _, t6⟩ := hf 6 _ rfl
        obtain ⟨v7, y7, c7, _, t7⟩ := hf 7 _ rfl
        obtain ⟨v8, y8, c8, _, t8⟩ := hf 8 _ rfl
        obtain ⟨v9, y9, c9, _, t9⟩ := hf 9 _ rfl
        obtain ⟨s0, e0, _⟩ := DataW.trod_int Tryd.underlying3 t0
        obtain ⟨s1, e1, _⟩ := DataW.trod_int Tryd.underlying3 t1
        obtain ⟨s2, e2, _⟩ := DataW.trod_int Tryd.underlying3 t2
        obtain ⟨s3, e3, _⟩ := DataW.trod_int Tryd.underlying3 t3
        obtain ⟨s4, e4, _⟩ := DataW.trod_int Tryd.underlying3 t4
        obtain ⟨s5, e5, _⟩ := DataW.trod_string Tryd.underlying9 t5
        obtain ⟨s6, e6, _⟩ := DataW.trod_string Tryd.underlying9 t6
        obtain ⟨s7, e7, _⟩ := DataW.trod_string Tryd.underlying9 t7
        obtain ⟨s8, e8, _⟩ := DataW.trod_string Tryd.underlying9 t8
        obtain ⟨s9, e9, _⟩ := DataW.trod_int Tryd.underlying3 t9
        simp only [List.cons.injEq, and_true] at e0 e1 e2 e3 e4 e5 e6 e7 e8 e9
        subst e0 e1 e2 e3 e4 e5 e6 e7 e8 e9
        refine ⟨⟨s0, s1, s2, s3, s4, s5, s6, s7, s8, s9⟩, fun _ => ⟨_, rfl, k45_mk w ⟨s0, s1, s2, s3, s4, s5, s6, s7, s8, s9⟩, fun j u hu => ?_⟩⟩
        have hj : j < 10 := (List.getElem?_eq_some_iff.1 hu).1
        rcases (show j = 0 ∨ j = 1 ∨ j = 2 ∨ j = 3 ∨ j = 4 ∨ j = 5 ∨ j = 6 ∨ j = 7 ∨ j = 8 ∨ j = 9 by omega) with rfl | rfl | rfl | rfl | rfl | rfl | rfl | rfl | rfl | rfl
        · obtain rfl := Option.some.inj hu; exact c0
        · obtain rfl := Option.some.inj hu; exact c1
        · obtain rfl := Option.some.inj hu; exact c2
        · obtain rfl := Option.some.inj hu; exact c3
        · obtain rfl := Option.some.inj hu; exact c4
        · obtain rfl := Option.some.inj hu; exact c5
        · obtain rfl := Option.some.inj hu; exact c6
        · obtain rfl := Option.some.inj hu; exact c7
        · obtain rfl := Option.some.inj hu; exact c8
        · obtain rfl := Option.some.inj hu; exact c9
      · exact ⟨z45, fun h => absurd h g⟩)
    exact ⟨some a, m, xs, by rw [hx]; exact hc, by omega, by rw [hx]; exact hk⟩
set_option maxRecDepth 100000 in
/-- The whole program. -/
theorem open_program {r : Reach} {b0 : Nat} {v : Value} {d : DataW H} {p : List MemPlace} (hv : Value.okWide Tryd.prog w r b0 25 v) (h : DataW.Trod enc Tryd.prog w 0 (fun _ => true) held 25 v d p) :
    ∃ (A0 : Option Addr) (c0 : Nat) (os : List S48) (A1 : Option Addr) (c1 : Nat) (ns : List S45), v = .agg #[.slice A0 os.length c0, .slice A1 ns.length c1] ∧ os.length ≤ c0 ∧ ns.length ≤ c1 ∧ Kd.C k48 w A0 os.length os ∧ Kd.C k45 w A1 ns.length ns := by
  obtain ⟨u0, u1, y0, y1, n, rfl, _, _, h0, h1⟩ := open_agg2 Tryd.underlying25 (by kernel_rfl) (by kernel_rfl) hv h
  obtain ⟨A0, c0, os, rfl, l0, k0⟩ := open_ops h0
  obtain ⟨A1, c1, ns, rfl, l1, k1⟩ := open_nodes h1
  exact ⟨A0, c0, os, A1, c1, ns, rfl, l0, l1, k0, k1⟩
end Go.Proofs.YtnogfhhfklkbiaaDoor.Open

namespace Go.Proofs.YtnogfhhfklkbiaaDoor.H
open Go.RowKit Go.Proofs.YtnogfhhfklkbiaaDoorW.PrintWords Go.Proofs.YtnogfhhfklkbiaaDoorW.PrintLast Go.Proofs.YtnogfhhfklkbiaaDoorW.PrintMore
attribute [local go_sem] max2_int min2_int max_two min_two max_three min_three max_four min_four   -- for this text's walks alone
set_option linter.unusedVariables false
set_option linter.unusedSimpArgs false

attribute [local go_sem high] eqA45
/-! ### trammellaw3_TreeParts: function 4 -/
mutual
def trammellaw3_TreeParts.j0 : Nat → Int → Bool → List (S48) → List (S45) → Option (Bool)
  | 0, _, _, _, _ => none
  | k + 1, x1, x29, x326000, x326001 => if x29 = true then (some true) else (if (IntKind.u64.wrap ((x326001.length : Int))) = 0 then (none) else ((tree_Part.f k x326001 (wrap64 (Int.tmod (IntKind.u64.wrap (x1)) (IntKind.u64.wrap ((x326001.length : Int)))))).bind fun bt328 => ((tree_Part.f k x326001 (wrap64 ((x326001.length : Int) - 1))).bind fun bt332 => ((tree_Depth.f k x326001 (wrap64 (Int.tmod (IntKind.u64.wrap (x1)) (IntKind.u64.wrap ((x326001.length : Int)))))).bind fun bt336 => ((trammellaw0_Num.f bt328.2).bind fun t338 => (if t338 = 0 then ((trammellaw0_Num.f bt332.2).bind fun t339 => (if t339 = 0 then ((trammellaw0_Num.f bt336.2).bind fun t340 => (if t340 = 0 then ((trammellaw0_SameNodes.f k bt332.1 x326001).bind fun t341 => (if t341 = true then (if (bt328.1.length : Int) < 1 then (trammellaw3_TreeParts.j1 k (wrap64 (Int.tmod (IntKind.u64.wrap (x1)) (IntKind.u64.wrap ((x326001.length : Int))))) bt328.1 bt336.1 true x326000 x326001) else (trammellaw3_TreeParts.j1 k (wrap64 (Int.tmod (IntKind.u64.wrap (x1)) (IntKind.u64.wrap ((x326001.length : Int))))) bt328.1 bt336.1 (decide ((bt328.1.length : Int) > (wrap64 ((wrap64 (Int.tmod (IntKind.u64.wrap (x1)) (IntKind.u64.wrap ((x326001.length : Int))))) + 1)))) x326000 x326001)) else (trammellaw3_TreeParts.j1 k (wrap64 (Int.tmod (IntKind.u64.wrap (x1)) (IntKind.u64.wrap ((x326001.length : Int))))) bt328.1 bt336.1 true x326000 x326001))) else (trammellaw3_TreeParts.j1 k (wrap64 (Int.tmod (IntKind.u64.wrap (x1)) (IntKind.u64.wrap ((x326001.length : Int))))) bt328.1 bt336.1 true x326000 x326001))) else (trammellaw3_TreeParts.j1 k (wrap64 (Int.tmod (IntKind.u64.wrap (x1)) (IntKind.u64.wrap ((x326001.length : Int))))) bt328.1 bt336.1 true x326000 x326001))) else (trammellaw3_TreeParts.j1 k (wrap64 (Int.tmod (IntKind.u64.wrap (x1)) (IntKind.u64.wrap ((x326001.length : Int))))) bt328.1 bt336.1 true x326000 x326001)))))))
def trammellaw3_TreeParts.j1 : Nat → Int → List (S45) → Int → Bool → List (S48) → List (S45) → Option (Bool)
  | 0, _, _, _, _, _, _ => none
  | k + 1, x5, x6, x10, x93, x326000, x326001 => if x93 = true then (some false) else ((tree_Depth.f k x6 (wrap64 ((x6.length : Int) - 1))).bind fun bt342 => ((tree_Depth.f k x326001 (wrap64 ((x326001.length : Int) - 1))).bind fun bt344 => (trammellaw3_TreeParts.l0 k x5 x6 x10 bt342.1 bt342.2 bt344.1 bt344.2 0 x326000 x326001)))
def trammellaw3_TreeParts.l0 : Nat → Int → List (S45) → Int → Int → Int → Int → Int → Int → List (S48) → List (S45) → Option (Bool)
  | 0, _, _, _, _, _, _, _, _, _, _ => none
  | k + 1, x5, x6, x10, x12, x13, x14, x15, x16, x326000, x326001 => if x16 < (x6.length : Int) then (if 0 ≤ x16 then (if 0 ≤ (wrap64 ((wrap64 ((wrap64 (x5 + 1)) - (x6.length : Int))) + x16)) then (if (wrap64 ((wrap64 ((wrap64 (x5 + 1)) - (x6.length : Int))) + x16)) < (x326001.length : Int) then (if (!(((rd_T45 x6 x16).f0) == ((rd_T45 x326001 (wrap64 ((wrap64 ((wrap64 (x5 + 1)) - (x6.length : Int))) + x16))).f0)) || (!(((rd_T45 x6 x16).f4) == ((rd_T45 x326001 (wrap64 ((wrap64 ((wrap64 (x5 + 1)) - (x6.length : Int))) + x16))).f4)) || (!((((rd_T45 x6 x16).f5).toList) == (((rd_T45 x326001 (wrap64 ((wrap64 ((wrap64 (x5 + 1)) - (x6.length : Int))) + x16))).f5).toList)) || (!((((rd_T45 x6 x16).f6).toList) == (((rd_T45 x326001 (wrap64 ((wrap64 ((wrap64 (x5 + 1)) - (x6.length : Int))) + x16))).f6).toList)) || (!((((rd_T45 x6 x16).f7).toList) == (((rd_T45 x326001 (wrap64 ((wrap64 ((wrap64 (x5 + 1)) - (x6.length : Int))) + x16))).f7).toList)) || (!((((rd_T45 x6 x16).f8).toList) == (((rd_T45 x326001 (wrap64 ((wrap64 ((wrap64 (x5 + 1)) - (x6.length : Int))) + x16))).f8).toList)) || (!(((rd_T45 x6 x16).f9) == ((rd_T45 x326001 (wrap64 ((wrap64 ((wrap64 (x5 + 1)) - (x6.length : Int))) + x16))).f9))))))))) = true then (some false) else (trammellaw3_TreeParts.l0 k x5 x6 x10 x12 x13 x14 x15 (wrap64 (x16 + 1)) x326000 x326001)) else (none)) else (none)) else (none)) else ((trammellaw0_Num.f x13).bind fun t350 => (if t350 = 0 then (if x12 = x10 then ((trammellaw0_Num.f x15).bind fun t351 => (if t351 = 0 then (if x10 ≤ x14 then ((tree_May.f k ([] : List (S48)) x6).bind fun t352 => (some t352)) else (some false)) else (some false))) else (some false)) else (some false)))
end
def trammellaw3_TreeParts.f (k : Nat) (l0_0 : List (S48)) (l0_1 : List (S45)) (a1 : Int) : Option (Bool) := (trammellaw3_awake.f k).bind fun t326 => (if t326 = true then ((tree_May.f k l0_0 l0_1).bind fun t327 => (if t327 = true then (trammellaw3_TreeParts.j0 k a1 (decide ((l0_1.length : Int) < 1)) l0_0 l0_1) else (trammellaw3_TreeParts.j0 k a1 true l0_0 l0_1))) else (some false))
theorem trammellaw3_TreeParts.mono_l : ∀ k, (∀ y0 y1 y2 y3, LeO (trammellaw3_TreeParts.j0 k y0 y1 y2 y3) (trammellaw3_TreeParts.j0 (k + 1) y0 y1 y2 y3)) ∧ (∀ y0 y1 y2 y3 y4 y5, LeO (trammellaw3_TreeParts.j1 k y0 y1 y2 y3 y4 y5) (trammellaw3_TreeParts.j1 (k + 1) y0 y1 y2 y3 y4 y5)) ∧ (∀ y0 y1 y2 y3 y4 y5 y6 y7 y8 y9, LeO (trammellaw3_TreeParts.l0 k y0 y1 y2 y3 y4 y5 y6 y7 y8 y9) (trammellaw3_TreeParts.l0 (k + 1) y0 y1 y2 y3 y4 y5 y6 y7 y8 y9))
  | 0 => ⟨fun _ _ _ _ r h => by simp [trammellaw3_TreeParts.j0] at h, fun _ _ _ _ _ _ r h => by simp [trammellaw3_TreeParts.j1] at h, fun _ _ _ _ _ _ _ _ _ _ r h => by simp [trammellaw3_TreeParts.l0] at h⟩
  | k + 1 => by
    obtain ⟨ih0, ih1, ih2⟩ := trammellaw3_TreeParts.mono_l k
    refine ⟨?_, ?_, ?_⟩
    · intro y0 y1 y2 y3
      unfold trammellaw3_TreeParts.j0
      repeat' first
      | (with_reducible exact ih0 _ _ _ _)
      | (with_reducible exact ih1 _ _ _ _ _ _)
      | (with_reducible exact ih2 _ _ _ _ _ _ _ _ _ _)
      | (with_reducible exact trammellaw0_SameNodes.mono _ _ _)
      | (with_reducible exact trammellaw3_awake.mono _)
      | (with_reducible exact tree_Depth.mono _ _ _)
      | (with_reducible exact tree_May.mono _ _ _)
      | (with_reducible exact tree_Part.mono _ _ _)
      | (with_reducible exact LeO.refl _)
      | (with_reducible exact LeO.none _)
      | (with_reducible refine LeO.ite ?_ ?_)
      | (with_reducible refine LeO.bind ?_ (fun _ => ?_))
      | exact ih0 _ _ _ _
      | exact ih1 _ _ _ _ _ _
      | exact ih2 _ _ _ _ _ _ _ _ _ _
      | exact trammellaw0_SameNodes.mono _ _ _
      | exact trammellaw3_awake.mono _
      | exact tree_Depth.mono _ _ _
      | exact tree_May.mono _ _ _
      | exact tree_Part.mono _ _ _
      | exact LeO.none _
      | refine LeO.ite ?_ ?_
      | refine LeO.bind ?_ (fun _ => ?_)
    · intro y0 y1 y2 y3 y4 y5
      unfold trammellaw3_TreeParts.j1
      repeat' first
      | (with_reducible exact ih0 _ _ _ _)
      | (with_reducible exact ih1 _ _ _ _ _ _)
      | (with_reducible exact ih2 _ _ _ _ _ _ _ _ _ _)
      | (with_reducible exact trammellaw0_SameNodes.mono _ _ _)
      | (with_reducible exact trammellaw3_awake.mono _)
      | (with_reducible exact tree_Depth.mono _ _ _)
      | (with_reducible exact tree_May.mono _ _ _)
      | (with_reducible exact tree_Part.mono _ _ _)
      | (with_reducible exact LeO.refl _)
      | (with_reducible exact LeO.none _)
      | (with_reducible refine LeO.ite ?_ ?_)
      | (with_reducible refine LeO.bind ?_ (fun _ => ?_))
      | exact ih0 _ _ _ _
      | exact ih1 _ _ _ _ _ _
      | exact ih2 _ _ _ _ _ _ _ _ _ _
      | exact trammellaw0_SameNodes.mono _ _ _
      | exact trammellaw3_awake.mono _
      | exact tree_Depth.mono _ _ _
      | exact tree_May.mono _ _ _
      | exact tree_Part.mono _ _ _
      | exact LeO.none _
      | refine LeO.ite ?_ ?_
      | refine LeO.bind ?_ (fun _ => ?_)
    · intro y0 y1 y2 y3 y4 y5 y6 y7 y8 y9
      unfold trammellaw3_TreeParts.l0
      repeat' first
      | (with_reducible exact ih0 _ _ _ _)
      | (with_reducible exact ih1 _ _ _ _ _ _)
      | (with_reducible exact ih2 _ _ _ _ _ _ _ _ _ _)
      | (with_reducible exact trammellaw0_SameNodes.mono _ _ _)
      | (with_reducible exact trammellaw3_awake.mono _)
      | (with_reducible exact tree_Depth.mono _ _ _)
      | (with_reducible exact tree_May.mono _ _ _)
      | (with_reducible exact tree_Part.mono _ _ _)
      | (with_reducible exact LeO.refl _)
      | (with_reducible exact LeO.none _)
      | (with_reducible refine LeO.ite ?_ ?_)
      | (with_reducible refine LeO.bind ?_ (fun _ => ?_))
      | exact ih0 _ _ _ _
      | exact ih1 _ _ _ _ _ _
      | exact ih2 _ _ _ _ _ _ _ _ _ _
      | exact trammellaw0_SameNodes.mono _ _ _
      | exact trammellaw3_awake.mono _
      | exact tree_Depth.mono _ _ _
      | exact tree_May.mono _ _ _
      | exact tree_Part.mono _ _ _
      | exact LeO.none _
      | refine LeO.ite ?_ ?_
      | refine LeO.bind ?_ (fun _ => ?_)
theorem trammellaw3_TreeParts.mono : ∀ a0 a1 a2 k, LeO (trammellaw3_TreeParts.f k a0 a1 a2) (trammellaw3_TreeParts.f (k + 1) a0 a1 a2) := by
  intro a0 a1 a2 k
  obtain ⟨ih0, ih1, ih2⟩ := trammellaw3_TreeParts.mono_l k
  unfold trammellaw3_TreeParts.f
  repeat' first
      | (with_reducible exact ih0 _ _ _ _)
      | (with_reducible exact ih1 _ _ _ _ _ _)
      | (with_reducible exact ih2 _ _ _ _ _ _ _ _ _ _)
      | (with_reducible exact trammellaw0_SameNodes.mono _ _ _)
      | (with_reducible exact trammellaw3_awake.mono _)
      | (with_reducible exact tree_Depth.mono _ _ _)
      | (with_reducible exact tree_May.mono _ _ _)
      | (with_reducible exact tree_Part.mono _ _ _)
      | (with_reducible exact LeO.refl _)
      | (with_reducible exact LeO.none _)
      | (with_reducible refine LeO.ite ?_ ?_)
      | (with_reducible refine LeO.bind ?_ (fun _ => ?_))
      | exact ih0 _ _ _ _
      | exact ih1 _ _ _ _ _ _
      | exact ih2 _ _ _ _ _ _ _ _ _ _
      | exact trammellaw0_SameNodes.mono _ _ _
      | exact trammellaw3_awake.mono _
      | exact tree_Depth.mono _ _ _
      | exact tree_May.mono _ _ _
      | exact tree_Part.mono _ _ _
      | exact LeO.none _
      | refine LeO.ite ?_ ?_
      | refine LeO.bind ?_ (fun _ => ?_)
end Go.Proofs.YtnogfhhfklkbiaaDoor.H

set_option linter.unusedVariables false
namespace Go.Proofs.YtnogfhhfklkbiaaDoor.Bits
open Go.RowKit

theorem wrap_i64_mem {n : Int} (h0 : 0 ≤ n) (h1 : n < 2 ^ 63) : IntKind.i64.wrap n = n := by
  rw [IntKind.wrap_i64]
  omega

/-- A mask of the low bits, of any number. -/
theorem and_mask (i : Nat) (hi : i ≤ 62) (x : Int) : bits .and .i64 x (2 ^ i - 1) = x % 2 ^ i := by
  have hpos : 0 < 2 ^ i := Nat.two_pow_pos i
  have hle : 2 ^ i ≤ 2 ^ 62 := Nat.pow_le_pow_right (by decide) hi
  have hc : ((2 : Int) ^ i - 1) = ((2 ^ i - 1 : Nat) : Int) := by
    rw [Int.natCast_sub hpos]; simp
  have e : bits .and .i64 x (2 ^ i - 1) = IntKind.i64.wrap (((x % ((2 ^ 64 : Nat) : Int)).toNat &&& (2 ^ i - 1) : Nat) : Int) := by
    rw [hc]
    have hb : (2 ^ i - 1) % 2 ^ IntKind.i64.bits = 2 ^ i - 1 := Nat.mod_eq_of_lt (by
      show 2 ^ i - 1 < 2 ^ 64
      omega)
    simp only [bits, BitVec.ofInt_natCast, BitVec.toNat_and, BitVec.toNat_ofNat, BitVec.toNat_ofInt, hb]
    rfl
  rw [e, Nat.and_two_pow_sub_one_eq_mod]
  have hlt : (x % ((2 ^ 64 : Nat) : Int)).toNat % 2 ^ i < 2 ^ i := Nat.mod_lt _ hpos
  rw [wrap_i64_mem (by omega) (by omega)]
  have hn : (0 : Int) ≤ x % ((2 ^ 64 : Nat) : Int) := Int.emod_nonneg _ (by decide)
  rw [Int.natCast_emod, Int.toNat_of_nonneg hn]
  have hd : ((2 : Int) ^ i) ∣ ((2 ^ 64 : Nat) : Int) := by
    refine ⟨((2 ^ (64 - i) : Nat) : Int), ?_⟩
    have : (2 : Nat) ^ 64 = 2 ^ i * 2 ^ (64 - i) := by rw [← Nat.pow_add]; congr 1; omega
    rw [this]
    simp
  rw [show ((2 ^ i : Nat) : Int) = (2 : Int) ^ i from by simp]
  exact Int.emod_emod_of_dvd x hd

theorem or_join (i : Nat) (x y : Int) (hi : i ≤ 62) (hx0 : 0 ≤ x) (hx : x % 2 ^ i = 0) (hx1 : x < 2 ^ 62) (hy0 : 0 ≤ y) (hy : y < 2 ^ i) : bits .or .i64 x y = x + y :=
  bits_join .i64 62 (by decide) (fun n h0 h1 => wrap_i64_mem h0 (by omega)) i x y hx0 hx hx1 hy0 hy (by
    have : (2 : Int) ^ i ≤ 2 ^ 62 := by exact_mod_cast (Nat.pow_le_pow_right (by decide) hi : (2:Nat) ^ i ≤ 2 ^ 62)
    omega)

theorem and63 (x : Int) : bits .and .i64 x 63 = x % 64 := and_mask 6 (by decide) x
theorem and127 (x : Int) : bits .and .i64 x 127 = x % 128 := and_mask 7 (by decide) x
theorem and1023 (x : Int) : bits .and .i64 x 1023 = x % 1024 := and_mask 10 (by decide) x
theorem and31 (x : Int) : bits .and .i64 x 31 = x % 32 := and_mask 5 (by decide) x
theorem and3 (x : Int) : bits .and .i64 x 3 = x % 4 := and_mask 2 (by decide) x
theorem and1 (x : Int) : bits .and .i64 x 1 = x % 2 := and_mask 1 (by decide) x
theorem and1073741823 (x : Int) : bits .and .i64 x 1073741823 = x % 1073741824 := and_mask 30 (by decide) x
theorem or128 (y : Int) (h0 : 0 ≤ y) (h1 : y < 64) : bits .or .i64 128 y = 128 + y := or_join 6 128 y (by decide) (by decide) (by decide) (by decide) h0 h1
theorem or192 (y : Int) (h0 : 0 ≤ y) (h1 : y < 64) : bits .or .i64 192 y = 192 + y := or_join 6 192 y (by decide) (by decide) (by decide) (by decide) h0 h1
theorem or224 (y : Int) (h0 : 0 ≤ y) (h1 : y < 32) : bits .or .i64 224 y = 224 + y := or_join 5 224 y (by decide) (by decide) (by decide) (by decide) h0 h1
theorem or240 (y : Int) (h0 : 0 ≤ y) (h1 : y < 16) : bits .or .i64 240 y = 240 + y := or_join 4 240 y (by decide) (by decide) (by decide) (by decide) h0 h1
theorem u64_wrap (x : Int) : IntKind.u64.wrap x = x % 18446744073709551616 := by
  simp [IntKind.wrap, IntKind.bits, IntKind.signed]
/-- 'int(uint(x) % m)'. -/
theorem u64_mod (x m : Int) (hm0 : 0 < m) (hm : m ≤ 4294967296) : wrap64 (Int.tmod (IntKind.u64.wrap x) m) = (x % 18446744073709551616) % m := by
  have h0 : 0 ≤ x % 18446744073709551616 := Int.emod_nonneg _ (by decide)
  rw [u64_wrap, Int.tmod_eq_emod_of_nonneg h0]
  have h1 := Int.emod_nonneg (x % 18446744073709551616) (b := m) (by omega)
  have h2 := Int.emod_lt_of_pos (x % 18446744073709551616) hm0
  unfold wrap64
  omega
end Go.Proofs.YtnogfhhfklkbiaaDoor.Bits

set_option linter.unusedVariables false
set_option linter.unusedSimpArgs false
set_option maxHeartbeats 1000000
namespace Go.Proofs.YtnogfhhfklkbiaaDoor.H
open Go.RowKit Go.Proofs.YtnogfhhfklkbiaaDoorW.PrintWords Go.Proofs.YtnogfhhfklkbiaaDoorW.PrintLast Go.Proofs.YtnogfhhfklkbiaaDoorW.PrintMore

/-- Children (the last one first) that stand behind one another ahead of p: they begin at r, the deepest is m deep. -/
inductive Ks (L : List S45) : List Int → Int → Int → Int → Prop
  | nil (p : Int) : Ks L [] p p 0
  | cons (p q r d m : Int) (cs : List Int) : 0 ≤ p - 1 → p - 1 < (L.length : Int) → Ks L (kidsOf (rd_T45 L (p - 1))).reverse (p - 1) q d → Ks L cs q r m → Ks L ((p - 1) :: cs) p r (mx (d + 1) m)
theorem mx_le {a b : Int} : a ≤ mx a b ∧ b ≤ mx a b ∧ (mx a b = a ∨ mx a b = b) := by unfold mx; split <;> omega
theorem mx_comm (a b : Int) : mx a b = mx b a := by unfold mx; split <;> split <;> omega
/-- Where they begin, and how deep they can be. -/
theorem ks_range {L : List S45} {cs : List Int} {p r m : Int} (h : Ks L cs p r m) (h0 : 0 ≤ p) : 0 ≤ r ∧ r ≤ p ∧ 0 ≤ m ∧ m ≤ p - r := by
  induction h with
  | nil p => omega
  | cons p q r d m cs g0 g1 _ _ ih1 ih2 =>
    have i1 := ih1 g0
    have i2 := ih2 i1.1
    have := @mx_le (d + 1) m
    omega
theorem ks_kids {L : List S45} {cs : List Int} {p r m : Int} (h : Ks L cs p r m) (h0 : 0 ≤ p) : ∀ c ∈ cs, r ≤ c ∧ c < (L.length : Int) := by
  induction h with
  | nil p => intro c hc; cases hc
  | cons p q r d m cs g0 g1 k1 k2 ih1 ih2 =>
    have i1 := ks_range k1 g0
    have i2 := ks_range k2 i1.1
    intro c hc
    rcases List.mem_cons.1 hc with rfl | hc
    · omega
    · exact ih2 i1.1 c hc
/-- What 'Begin' finds is that. -/
theorem ks_of_begin (L : List S45) (hl : L.length ≤ 512) : ∀ (k : Nat) (cs : List Int) (p r : Int), 0 ≤ p → p ≤ (L.length : Int) → goB (tree_Begin.f k L) cs p = some r → 0 ≤ r → ∃ m, Ks L cs p r m := by
  intro k
  induction k with
  | zero =>
    intro cs p r h0 h1 h hr
    cases cs with
    | nil => obtain rfl : p = r := by simpa [goB] using h
             exact ⟨0, .nil p⟩
    | cons c cs =>
      unfold goB at h
      rw [show wrap64 (p - 1) = p - 1 from by unfold wrap64; omega] at h
      by_cases g : p - 1 < 0
      · rw [if_pos g] at h; obtain rfl : -1 = r := Option.some.inj h
        omega
      · rw [if_neg g] at h
        by_cases g2 : c = p - 1
        · rw [if_pos g2, tree_Begin.f] at h; cases h
        · rw [if_neg g2] at h; obtain rfl : -1 = r := Option.some.inj h
          omega
  | succ k ih =>
    intro cs
    induction cs with
    | nil =>
      intro p r h0 h1 h hr
      obtain rfl : p = r := by simpa [goB] using h
      exact ⟨0, .nil p⟩
    | cons c cs ihc =>
      intro p r h0 h1 h hr
      unfold goB at h
      rw [show wrap64 (p - 1) = p - 1 from by unfold wrap64; omega] at h
      by_cases g : p - 1 < 0
      · rw [if_pos g] at h; obtain rfl : -1 = r := Option.some.inj h
        omega
      · rw [if_neg g] at h
        by_cases g2 : c = p - 1
        · rw [if_pos g2, tree_Begin.f, if_pos (by omega), if_pos (by omega)] at h
          cases e : goB (tree_Begin.f k L) (kidsOf (rd_T45 L (p - 1))).reverse (p - 1) with
          | none => rw [e] at h; cases h
          | some q =>
            rw [e, Option.bind_some] at h
            by_cases g3 : q < 0
            · rw [if_pos g3] at h; obtain rfl : -1 = r := Option.some.inj h
              omega
            · rw [if_neg g3] at h
              obtain ⟨d, hd⟩ := ih _ _ _ (by omega) (by omega) e (by omega)
              have hq := ks_range hd (by omega)
              obtain ⟨m, hm⟩ := ihc q r (by omega) (by omega) h hr
              subst g2
              exact ⟨_, .cons p q r d m cs (by omega) (by omega) hd hm⟩
        · rw [if_neg g2] at h; obtain rfl : -1 = r := Option.some.inj h
          omega
/-- And 'Begin' finds it, with rounds enough. -/
theorem begin_of_ks {L : List S45} (hl : L.length ≤ 512) {cs : List Int} {p r m : Int} (h : Ks L cs p r m) (h0 : 0 ≤ p) (h1 : p ≤ (L.length : Int)) : ∀ k : Nat, p ≤ (k : Int) → goB (tree_Begin.f k L) cs p = some r := by
  induction h with
  | nil p => intro k _; rfl
  | cons p q r d m cs g0 g1 k1 k2 ih1 ih2 =>
    intro k hk
    obtain ⟨k, rfl⟩ : ∃ n, k = n + 1 := ⟨k - 1, by omega⟩
    have i1 := ks_range k1 g0
    unfold goB
    rw [show wrap64 (p - 1) = p - 1 from by unfold wrap64; omega, if_neg (by omega), if_pos rfl, tree_Begin.f, if_pos g0, if_pos g1, ih1 g0 (by omega) k (by omega), Option.bind_some, if_neg (by omega)]
    exact ih2 i1.1 (by omega) (k + 1) (by omega)
theorem goD_append (g : Int → Option Int) (c : Int) : ∀ (cs : List Int) (d : Int), goD g (cs ++ [c]) d = (goD g cs d).bind fun r => (g c).bind fun s => some (mx r s)
  | [], d => by
    simp only [List.nil_append, goD, Option.bind_some]
  | a :: cs, d => by
    simp only [List.cons_append, goD]
    cases g a with
    | none => rfl
    | some s =>
      simp only [Option.bind_some]
      exact goD_append g c cs _
theorem depth_of_ks {L : List S45} (hl : L.length ≤ 512) {cs : List Int} {p r m : Int} (h : Ks L cs p r m) (h0 : 0 ≤ p) (h1 : p ≤ (L.length : Int)) : ∀ k : Nat, p ≤ (k : Int) → goD (tree_depth.f k L) cs.reverse 0 = some m := by
  induction h with
  | nil p => intro k _; rfl
  | cons p q r d m cs g0 g1 k1 k2 ih1 ih2 =>
    intro k hk
    obtain ⟨k, rfl⟩ : ∃ n, k = n + 1 := ⟨k - 1, by omega⟩
    have i1 := ks_range k1 g0
    have e := ih1 g0 (by omega) k (by omega)
    rw [List.reverse_reverse] at e
    rw [List.reverse_cons, goD_append, ih2 i1.1 (by omega) (k + 1) (by omega), Option.bind_some, tree_depth.f, if_pos g0, if_pos g1, e, Option.bind_some, Option.bind_some, wrapS (by omega) (by omega), mx_comm]
/-- Each node between makes a part of its own. -/
theorem ks_inner {L : List S45} {cs : List Int} {p r m : Int} (h : Ks L cs p r m) (h0 : 0 ≤ p) (j : Int) (hr : r ≤ j) (hp : j < p) : j < (L.length : Int) ∧ ∃ s e, Ks L (kidsOf (rd_T45 L j)).reverse j s e ∧ r ≤ s ∧ e + 1 ≤ m := by
  induction h with
  | nil p => omega
  | cons p q r d m cs g0 g1 k1 k2 ih1 ih2 =>
    have i1 := ks_range k1 g0
    have i2 := ks_range k2 i1.1
    have := @mx_le (d + 1) m
    by_cases a : j = p - 1
    · subst a
      exact ⟨g1, q, d, k1, by omega, by omega⟩
    · by_cases b : q ≤ j
      · obtain ⟨c1, s, e, c2, c3, c4⟩ := ih1 g0 b (by omega)
        exact ⟨c1, s, e, c2, by omega, by omega⟩
      · obtain ⟨c1, s, e, c2, c3, c4⟩ := ih2 i1.1 hr (by omega)
        exact ⟨c1, s, e, c2, c3, by omega⟩
theorem kidsOf_moved (b : Int) (x : S45) : kidsOf (movedKids b x) = (kidsOf x).map fun c => wrap64 (c - b) := by
  have := kidsN_le x.f0
  unfold movedKids moveN kidsOf
  simp only
  generalize kidsN x.f0 = n at *
  match n, this with
  | 0, _ => rfl
  | 1, _ => rfl
  | 2, _ => rfl
  | 3, _ => rfl
/-- The nodes from b to a, their children moved. -/
def partL (L : List S45) (b a : Int) : List S45 := ((L.drop b.toNat).take (a + 1 - b).toNat).map (movedKids b)
theorem partL_len (L : List S45) {b a : Int} (h0 : 0 ≤ b) (h1 : b ≤ a) (h2 : a < (L.length : Int)) : ((partL L b a).length : Int) = a + 1 - b := by
  unfold partL
  rw [List.length_map, List.length_take, List.length_drop]
  omega
theorem partL_rd (L : List S45) {b a j : Int} (h0 : 0 ≤ b) (h1 : b ≤ j) (h2 : j ≤ a) (h3 : a < (L.length : Int)) : rd_T45 (partL L b a) (j - b) = movedKids b (rd_T45 L j) := by
  have hl := partL_len L h0 (by omega : b ≤ a) h3
  obtain ⟨i, hi⟩ := Int.eq_ofNat_of_zero_le (show 0 ≤ j - b by omega)
  obtain ⟨n, rfl⟩ := Int.eq_ofNat_of_zero_le (show 0 ≤ j by omega)
  obtain ⟨b, rfl⟩ := Int.eq_ofNat_of_zero_le h0
  rw [hi, rd_at _ i (by omega), rd_at L n (by omega)]
  have : n = b + i := by omega
  subst this
  simp [partL]
theorem ks_part {L : List S45} (hl : L.length ≤ 512) {cs : List Int} {p r m : Int} (h : Ks L cs p r m) (b a : Int) (h0 : 0 ≤ b) (hb : b ≤ r) (hp : p ≤ a + 1) (ha : a < (L.length : Int)) : Ks (partL L b a) (cs.map fun c => wrap64 (c - b)) (p - b) (r - b) m := by
  have hr : 0 ≤ r := by omega
  revert hb hp hr
  induction h with
  | nil p => intro _ _ _; exact .nil _
  | cons p q r d m cs g0 g1 k1 k2 ih1 ih2 =>
    intro hb hp hr
    have i1 := ks_range k1 g0
    have i2 := ks_range k2 i1.1
    have hlen := partL_len L h0 (show b ≤ a by omega) ha
    rw [List.map_cons, show wrap64 (p - 1 - b) = p - b - 1 from by unfold wrap64; omega]
    refine .cons (p - b) (q - b) (r - b) d m _ (by omega) (by omega) ?_ (ih2 hb (by omega) hr)
    rw [show p - b - 1 = p - 1 - b from by omega, partL_rd L h0 (by omega) (by omega) ha, kidsOf_moved, ← List.map_reverse]
    exact ih1 (by omega) (by omega) (by omega)
theorem moved_id (x : S45) (h : ∀ c ∈ kidsOf x, 0 ≤ c ∧ c ≤ 512) : movedKids 0 x = x := by
  have hn := kidsN_le x.f0
  unfold kidsOf at h
  unfold movedKids
  generalize kidsN x.f0 = n at *
  match n, hn with
  | 0, _ => rfl
  | 1, _ =>
    have a := h x.f1 (by simp)
    simp only [moveN, show (0:Nat) < 1 from by decide, show ¬ (1:Nat) < 1 from by decide, show ¬ (2:Nat) < 1 from by decide, if_true, if_false]
    rw [show wrap64 (x.f1 - 0) = x.f1 from by unfold wrap64; omega]
  | 2, _ =>
    have a := h x.f1 (by simp)
    have b := h x.f2 (by simp)
    simp only [moveN, show (0:Nat) < 2 from by decide, show (1:Nat) < 2 from by decide, show ¬ (2:Nat) < 2 from by decide, if_true, if_false]
    rw [show wrap64 (x.f1 - 0) = x.f1 from by unfold wrap64; omega, show wrap64 (x.f2 - 0) = x.f2 from by unfold wrap64; omega]
  | 3, _ =>
    have a := h x.f1 (by simp)
    have b := h x.f2 (by simp)
    have c := h x.f3 (by simp)
    simp only [moveN, show (0:Nat) < 3 from by decide, show (1:Nat) < 3 from by decide, show (2:Nat) < 3 from by decide, if_true]
    rw [show wrap64 (x.f1 - 0) = x.f1 from by unfold wrap64; omega, show wrap64 (x.f2 - 0) = x.f2 from by unfold wrap64; omega, show wrap64 (x.f3 - 0) = x.f3 from by unfold wrap64; omega]
theorem noNames_moved (b : Int) (x : S45) : noNames (movedKids b x) = movedKids b (noNames x) := by
  have e0 : (movedKids b x).f0 = x.f0 := rfl
  unfold noNames
  rw [e0]
  by_cases h1 : x.f0 = 0 ∨ x.f0 = 9
  · rw [if_pos h1, if_pos h1]; rfl
  · rw [if_neg h1, if_neg h1]
    by_cases h2 : x.f0 = 3 ∨ x.f0 = 5
    · rw [if_pos h2, if_pos h2]; rfl
    · rw [if_neg h2, if_neg h2]
      by_cases h3 : x.f0 = 6
      · rw [if_pos h3, if_pos h3]; rfl
      · rw [if_neg h3, if_neg h3]
        by_cases h4 : x.f0 = 10
        · rw [if_pos h4, if_pos h4]; rfl
        · rw [if_neg h4, if_neg h4]
theorem noKids_moved (b : Int) (x : S45) : noKids (movedKids b x) = noKids x := by
  have hn := kidsN_le x.f0
  unfold noKids movedKids
  have e : (moveN b (kidsN x.f0) x).f0 = x.f0 := rfl
  rw [e]
  generalize kidsN x.f0 = n at *
  match n, hn with
  | 0, _ => rfl
  | 1, _ => rfl
  | 2, _ => rfl
  | 3, _ => rfl
theorem namesOf_moved (b : Int) (x : S45) : namesOf (movedKids b x) = namesOf x := rfl
theorem mayS_moved (b : Int) (x : S45) (named : Bool) : mayS (movedKids b x) named = mayS x named := by
  unfold mayS
  rw [namesOf_moved, noNames_moved]
  have e0 : (movedKids b x).f0 = x.f0 := rfl
  have e4 : (movedKids b x).f4 = x.f4 := rfl
  have e9 : (movedKids b x).f9 = x.f9 := rfl
  rw [e0, e4, e9]
  cases named <;> simp only [if_true, if_false, Bool.false_eq_true, noKids_moved]
/-- The comparison of a part's nodes with those that stand between. -/
theorem parts_loop (L : List S45) (hl : L.length ≤ 512) (b a : Int) (hb : 0 ≤ b) (hba : b ≤ a) (ha : a < (L.length : Int)) (os : List S48) (d root : Int) (hd : d ≤ root) (hmay : treeMayS [] (partL L b a) = true) : ∀ (n i k : Nat), (partL L b a).length - i = n → i ≤ (partL L b a).length → n + 1201 ≤ k →
    trammellaw3_TreeParts.l0 k a (partL L b a) d d 0 root 0 (i : Int) os L = some true := by
  have hlen := partL_len L hb hba ha
  intro n
  induction n with
  | zero =>
    intro i k hn hi hk
    obtain ⟨k, rfl⟩ : ∃ m, k = m + 1 := ⟨k - 1, by omega⟩
    rw [trammellaw3_TreeParts.l0, if_neg (by omega)]
    simp only [trammellaw0_Num.f, Option.bind_some, if_true]
    rw [if_pos hd, treeMay_is _ _ k (by omega), hmay, Option.bind_some]
  | succ n ih =>
    intro i k hn hi hk
    obtain ⟨k, rfl⟩ : ∃ m, k = m + 1 := ⟨k - 1, by omega⟩
    rw [trammellaw3_TreeParts.l0, if_pos (by omega), if_pos (by omega)]
    have e : wrap64 (wrap64 (wrap64 (a + 1) - ((partL L b a).length : Int)) + (i : Int)) = b + i := by
      rw [hlen, show wrap64 (a + 1) = a + 1 from wrapS (by omega) (by omega), show wrap64 (a + 1 - (a + 1 - b)) = b from by rw [show a + 1 - (a + 1 - b) = b by omega]; exact wrapS (by omega) (by omega)]
      exact wrapS (by omega) (by omega)
    rw [e, if_pos (by omega), if_pos (by omega)]
    have r : rd_T45 (partL L b a) (i : Int) = movedKids b (rd_T45 L (b + i)) := by
      have := partL_rd L (j := b + i) hb (by omega) (by omega) ha
      rwa [show b + (i : Int) - b = i by omega] at this
    rw [r]
    have m0 : ∀ x : S45, (movedKids b x).f0 = x.f0 := fun _ => rfl
    have m4 : ∀ x : S45, (movedKids b x).f4 = x.f4 := fun _ => rfl
    have m5 : ∀ x : S45, (movedKids b x).f5 = x.f5 := fun _ => rfl
    have m6 : ∀ x : S45, (movedKids b x).f6 = x.f6 := fun _ => rfl
    have m7 : ∀ x : S45, (movedKids b x).f7 = x.f7 := fun _ => rfl
    have m8 : ∀ x : S45, (movedKids b x).f8 = x.f8 := fun _ => rfl
    have m9 : ∀ x : S45, (movedKids b x).f9 = x.f9 := fun _ => rfl
    simp only [m0, m4, m5, m6, m7, m8, m9, beq_self_eq_true, Bool.not_true, Bool.or_self, Bool.false_eq_true, if_false]
    rw [show wrap64 ((i : Int) + 1) = ((i + 1 : Nat) : Int) from by rw [wrapS (by omega) (by omega)]; omega]
    exact ih (i + 1) k (by omega) (by omega) (by omega)
theorem begin_goB (L : List S45) (a : Int) (h0 : 0 ≤ a) (h1 : a < (L.length : Int)) (hl : L.length ≤ 512) : goB (tree_Begin.f L.length L) (kidsOf (rd_T45 L a)).reverse a = some (beginS L a) := by
  have := begin_is L a (L.length + 1) h0 h1 (by omega) (by omega)
  rwa [tree_Begin.f, if_pos h0, if_pos h1] at this
theorem TreeParts_pure (os : List S48) (L : List S45) (a1 : Int) : ∃ k, trammellaw3_TreeParts.f k os L a1 = some true := by
  obtain ⟨K, hK⟩ : ∃ K : Nat, 3996 ≤ K := ⟨3996, Nat.le_refl _⟩
  refine ⟨K + 4, ?_⟩
  unfold trammellaw3_TreeParts.f
  rw [at_rounds trammellaw3_awake.mono (show 1300 ≤ K + 4 by omega) trammellaw3_awake.is, Option.bind_some, if_pos rfl, treeMay_is _ _ (K + 4) (by omega), Option.bind_some]
  cases hmay : treeMayS os L
  · rw [if_neg (by decide), trammellaw3_TreeParts.j0, if_pos rfl]
  · rw [if_pos rfl]
    have hsh : shapedS L true = true := by
      unfold treeMayS at hmay
      exact (Bool.and_eq_true _ _ ▸ hmay).2
    have hsh' := hsh
    unfold shapedS at hsh'
    simp only [Bool.and_eq_true, decide_eq_true_eq, beq_iff_eq] at hsh'
    obtain ⟨l1, hl, hall, hb⟩ := hsh'
    rw [trammellaw3_TreeParts.j0, if_neg (by simp; omega)]
    have hw : IntKind.u64.wrap (L.length : Int) = L.length := by rw [Bits.u64_wrap]; omega
    have hx : wrap64 (Int.tmod (IntKind.u64.wrap a1) (IntKind.u64.wrap (L.length : Int))) = (a1 % 18446744073709551616) % (L.length : Int) := by
      rw [hw, Bits.u64_wrap, Int.tmod_eq_emod_of_nonneg (Int.emod_nonneg _ (by decide))]
      have := Int.emod_nonneg (a1 % 18446744073709551616) (b := (L.length : Int)) (by omega)
      have := Int.emod_lt_of_pos (a1 % 18446744073709551616) (b := (L.length : Int)) (by omega)
      exact wrapS (by omega) (by omega)
    rw [if_neg (by rw [hw]; omega), hx]
    have j0 := Int.emod_nonneg (a1 % 18446744073709551616) (b := (L.length : Int)) (by omega)
    have j1 := Int.emod_lt_of_pos (a1 % 18446744073709551616) (b := (L.length : Int)) (by omega)
    generalize a1 % 18446744073709551616 % (L.length : Int) = j at *
    clear hx hw
    rw [show wrap64 ((L.length : Int) - 1) = (L.length : Int) - 1 from wrapS (by omega) (by omega)]
    -- the tree
    obtain ⟨m, hm⟩ := ks_of_begin L hl L.length _ _ _ (by omega) (by omega) (begin_goB L ((L.length : Int) - 1) (by omega) (by omega) hl) (by rw [hb]; omega)
    rw [hb] at hm
    have hroot : Ks L [(L.length : Int) - 1] L.length 0 (mx (m + 1) 0) := .cons (L.length : Int) 0 0 m 0 [] (by omega) (by omega) hm (.nil 0)
    have hm0 := ks_range hm (by omega)
    have hmx : mx (m + 1) 0 = m + 1 := by unfold mx; rw [if_neg (by omega)]
    rw [hmx] at hroot
    obtain ⟨_, s, e, he, hs0, he1⟩ := ks_inner hroot (by omega) j j0 j1
    have hsr := ks_range he j0
    -- what the calls tell
    have ht : ∀ x : Int, 0 ≤ x → x < (L.length : Int) → thereS L x = true := fun x h0 h1 => by simp [thereS, hsh, h0, h1]
    have bj : ∀ k : Nat, 1 ≤ k → j ≤ ((k - 1 : Nat) : Int) → tree_Begin.f k L j = some s := fun k hk hj => by
      obtain ⟨k, rfl⟩ : ∃ n, k = n + 1 := ⟨k - 1, by omega⟩
      rw [tree_Begin.f, if_pos j0, if_pos j1]
      exact begin_of_ks hl he j0 (by omega) k (by simpa using hj)
    have br : ∀ k : Nat, 600 ≤ k → tree_Begin.f k L ((L.length : Int) - 1) = some 0 := fun k hk => by
      obtain ⟨k, rfl⟩ : ∃ n, k = n + 1 := ⟨k - 1, by omega⟩
      rw [tree_Begin.f, if_pos (by omega), if_pos (by omega)]
      exact begin_of_ks hl hm (by omega) (by omega) k (by omega)
    have pj : tree_Part.f (K + 3) L j = some (partL L s j, 0) := by
      unfold tree_Part.f
      rw [there_is L j (K + 3) (by omega), ht j j0 j1, Option.bind_some, if_pos rfl, bj (K + 3) (by omega) (by omega), Option.bind_some, if_pos (by omega)]
      rfl
    have hallL : partL L 0 ((L.length : Int) - 1) = L := by
      apply List.ext_getElem?
      intro i
      have hlen := partL_len L (b := 0) (a := (L.length : Int) - 1) (by omega) (by omega) (by omega)
      by_cases hi : i < L.length
      · have r := partL_rd L (b := 0) (a := (L.length : Int) - 1) (j := (i : Int)) (by omega) (by omega) (by omega) (by omega)
        obtain ⟨_, s', e', he', hs', _⟩ := ks_inner hroot (by omega) (i : Int) (by omega) (by omega)
        have kk := ks_kids he' (by omega)
        rw [Int.sub_zero, rd_at _ i (by omega), rd_at L i hi, moved_id L[i] (fun c hc => by
          have := kk c (by rw [rd_at L i hi, List.mem_reverse]; exact hc)
          omega)] at r
        rw [List.getElem?_eq_getElem (by omega), List.getElem?_eq_getElem hi, r]
      · rw [List.getElem?_eq_none (by omega), List.getElem?_eq_none (by omega)]
    have pr : tree_Part.f (K + 3) L ((L.length : Int) - 1) = some (L, 0) := by
      unfold tree_Part.f
      rw [there_is L _ (K + 3) (by omega), ht _ (by omega) (by omega), Option.bind_some, if_pos rfl, br (K + 3) (by omega), Option.bind_some, if_pos (by omega)]
      exact congrArg some (congrArg (fun z => (z, (0 : Int))) hallL)
    have dj : tree_Depth.f (K + 3) L j = some (e + 1, 0) := by
      unfold tree_Depth.f
      rw [there_is L j (K + 3) (by omega), ht j j0 j1, Option.bind_some, if_pos rfl, tree_depth.f, if_pos j0, if_pos j1]
      have := depth_of_ks hl he j0 (by omega) (K + 2) (by omega)
      rw [List.reverse_reverse] at this
      rw [this, Option.bind_some, Option.bind_some, wrapS (by omega) (by omega)]
    have dr : tree_Depth.f (K + 2) L ((L.length : Int) - 1) = some (m + 1, 0) := by
      unfold tree_Depth.f
      rw [there_is L _ (K + 2) (by omega), ht _ (by omega) (by omega), Option.bind_some, if_pos rfl, tree_depth.f, if_pos (by omega), if_pos (by omega)]
      have := depth_of_ks hl hm (by omega) (by omega) (K + 1) (by omega)
      rw [List.reverse_reverse] at this
      rw [this, Option.bind_some, Option.bind_some, wrapS (by omega) (by omega)]
    -- the part is a tree
    have plen := partL_len L hs0 hsr.2.1 j1
    have hp := ks_part hl he s j hs0 (Int.le_refl _) (by omega) j1
    have prd := partL_rd L (j := j) hs0 hsr.2.1 (Int.le_refl _) j1
    have hp' : Ks (partL L s j) (kidsOf (rd_T45 (partL L s j) (((partL L s j).length : Int) - 1))).reverse (((partL L s j).length : Int) - 1) 0 e := by
      rw [show ((partL L s j).length : Int) - 1 = j - s from by omega, prd, kidsOf_moved, ← List.map_reverse]
      rw [Int.sub_self] at hp
      exact hp
    have hpb : beginS (partL L s j) (((partL L s j).length : Int) - 1) = 0 := by
      have := begin_goB (partL L s j) (((partL L s j).length : Int) - 1) (by omega) (by omega) (by omega)
      rw [begin_of_ks (by omega) hp' (by omega) (by omega) _ (by omega)] at this
      exact (Option.some.inj this).symm
    have hpm : shapedS (partL L s j) true = true := by
      unfold shapedS
      rw [hpb]
      simp only [Bool.and_eq_true, decide_eq_true_eq, beq_iff_eq]
      refine ⟨by omega, by omega, ?_, trivial⟩
      rw [List.all_eq_true] at hall ⊢
      intro x hx
      unfold partL at hx
      obtain ⟨y, hy, rfl⟩ := List.mem_map.1 hx
      rw [mayS_moved]
      exact hall y (List.mem_of_mem_drop (List.mem_of_mem_take hy))
    have do' : tree_Depth.f (K + 2) (partL L s j) (((partL L s j).length : Int) - 1) = some (e + 1, 0) := by
      unfold tree_Depth.f
      rw [there_is _ _ (K + 2) (by omega), show thereS (partL L s j) (((partL L s j).length : Int) - 1) = true from by simp [thereS, hpm]; omega, Option.bind_some, if_pos rfl, tree_depth.f, if_pos (by omega), if_pos (by omega)]
      have := depth_of_ks (by omega) hp' (by omega) (by omega) (K + 1) (by omega)
      rw [List.reverse_reverse] at this
      rw [this, Option.bind_some, Option.bind_some, wrapS (by omega) (by omega)]
    rw [pj, pr, dj]
    simp only [Option.bind_some, trammellaw0_Num.f, if_true]
    rw [sameN_is L L (K + 3) (by omega) (by omega), (eqNodes_iff L L).2 rfl]
    simp only [Option.bind_some, if_true]
    rw [if_neg (by omega), show decide (((partL L s j).length : Int) > wrap64 (j + 1)) = false from decide_eq_false (by rw [wrapS (by omega) (by omega)]; omega), trammellaw3_TreeParts.j1, if_neg (by decide), show wrap64 (((partL L s j).length : Int) - 1) = ((partL L s j).length : Int) - 1 from wrapS (by omega) (by omega), show wrap64 ((L.length : Int) - 1) = (L.length : Int) - 1 from wrapS (by omega) (by omega), do', dr]
    simp only [Option.bind_some]
    have hmay' : treeMayS [] (partL L s j) = true := by
      unfold treeMayS
      rw [hpm]
      rfl
    exact parts_loop L hl s j hs0 hsr.2.1 j1 os (e + 1) (m + 1) he1 hmay' (partL L s j).length 0 (K + 2) rfl (Nat.zero_le _) (by omega)
end Go.Proofs.YtnogfhhfklkbiaaDoor.H
