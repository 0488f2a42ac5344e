/- Several texts in one: contracts of functions of the program, and what they lean on. In part written by a program of this session over the kit's print, in part by hand. -/
import Derived.Test.YtoedpbjeangdhaaDoorYParseMany5
import Derived.Test.YtoedpbjeangdhaaDoorYParseMany4
namespace Go.Proofs.YtoedpbjeangdhaaDoor.Sy
open Go Go.Ev Go.Ev.Pm
set_option linter.unusedVariables false
set_option linter.unusedSimpArgs false
set_option linter.unusedSectionVars false
def Sub (m : Mem) (o o' : Nat → Prop) : Prop := ∀ x, x < m.next → o' x → o x
def Post (m : Mem) (E : Int) (pb : Nat) (oN oO : Nat → Prop) (m' : Mem) (P' : PS) : Prop :=
  ∃ oN' oO', Rep m' E pb oN' oO' P' ∧ Fr (own pb oN oO) m m' ∧ Sub m (own pb oN oO) (own pb oN' oO')
theorem Parts.move {S : Nat → Prop} {m m2 : Mem} {E : Int} {pb : Nat} {oN oO : Nat → Prop} {P : PS} {tv ov nv ev : V} (hp : Parts m E pb oN oO P tv ov nv ev) (dN : ¬ oN pb) (dO : ¬ oO pb) (f : Fr S m m2) (hS : ∀ x, x < m.next → S x → x = pb) :
    TokR m2 (own pb oN oO) tv P.toks ∧ RowR m2 oO 35 3 ov (P.ops.flatMap odC) P.ops.length ∧ RowR m2 oN 38 10 nv (P.ns.flatMap ndC) P.ns.length ∧ ErrR m2 (own pb oN oO) ev P.err :=
  ⟨hp.toks.fr f (fun x h k => .inl (hS x h k)) (fun _ _ h => h), hp.ops.fr f (fun x h k c => dO (hS x h c ▸ k)), hp.ns.fr f (fun x h k c => dN (hS x h c ▸ k)), hp.err.fr f (fun x h k => .inl (hS x h k)) (fun _ _ h => h)⟩
section
variable {m m' : Mem} {E : Int} {pb : Nat} {oN oO : Nat → Prop} {P P' : PS}
theorem Post.refl (h : Rep m E pb oN oO P) : Post m E pb oN oO m P := ⟨oN, oO, h, Fr.refl _ _, fun _ _ h => h⟩
theorem Post.trans {m1 m2 : Mem} {P1 P2 : PS} (h : Post m E pb oN oO m1 P1) (k : ∀ oN1 oO1, Rep m1 E pb oN1 oO1 P1 → Post m1 E pb oN1 oO1 m2 P2) : Post m E pb oN oO m2 P2 := by
  obtain ⟨a, b, h1, h2, h3⟩ := h
  obtain ⟨c, d, k1, k2, k3⟩ := k a b h1
  exact ⟨c, d, k1, h2.trans k2 (fun q hq hc => h3 q hq hc), fun x hx hc => h3 x hx (k3 x (Nat.lt_of_lt_of_le hx h2.le) hc)⟩
theorem Post.after {aN aO : Nat → Prop} {m1 m2 : Mem} {P2 : PS} (r2 : Fr (own pb oN oO) m m1) (r3 : Sub m (own pb oN oO) (own pb aN aO)) (k : Post m1 E pb aN aO m2 P2) : Post m E pb oN oO m2 P2 := by
  obtain ⟨c, d, k1, k2, k3⟩ := k
  exact ⟨c, d, k1, r2.trans k2 (fun q hq hc => r3 q hq hc), fun x hx hc => r3 x hx (k3 x (Nat.lt_of_lt_of_le hx r2.le) hc)⟩
inductive ErrA (m : Mem) (own : Nat → Prop) : V → Int → Prop
  | no (c : Int) : ErrA m own (.iface 27 (.int .i64 c)) c
  | want (wb : Nat) (s : ByteArray) (h : Blok m wb 54 [vs s]) (ho : ¬ own wb) : ErrA m own (.iface 52 (.ptr wb 0)) 403
variable {xb : XB} {ext : CallF} (hx : ∀ (f : Nat) (a : List V) (m : Mem), f ∉ XS → ext f a m = none)
include hx
theorem fail_spec (h : Rep m E pb oN oO P) {ea : V} {c : Int} (ha : ErrA m (own pb oN oO) ea c) : ∃ m', Ev Tryd.prog xb ext 15 [.ptr pb 0, ea] m (.tup []) m' ∧ Post m E pb oN oO m' (fail E c P) := by
  obtain ⟨tv, ov, nv, ev, hp⟩ := h.ex
  have h4 := hp.obj.cell (i := 4) rfl
  have he := hp.err
  refine ev_to ?_
  unfold fail
  cases hE : P.err with
  | some z =>
    rw [hE] at he
    have : ∃ t v, ev = .iface t v := by cases he <;> exact ⟨_, _, rfl⟩
    obtain ⟨t, v, rfl⟩ := this
    refine ev_of (fun m => hx _ _ m (by decide)) Tryd.func15 rfl rfl ?_
    refine wc_seq ?_
    refine wc_region ?_
    refine wo_n rfl (nv_move rfl rfl) rfl rfl ?_
    refine wo_n rfl (nv_nil rfl rfl rfl) rfl rfl ?_
    refine wo_n rfl (nv_fa rfl rfl) rfl rfl ?_
    refine wo_m rfl (mv_load rfl rfl (by assumption)) rfl rfl ?_
    refine wo_n rfl (nv_eqlI rfl rfl rfl) rfl rfl ?_
    refine wo_nil ?_
    refine thenW_n ?_
    refine wc_false rfl ?_
    refine wc_skip ?_
    refine endW_none rfl ?_
    exact ⟨rfl, .refl h⟩
  | none =>
    rw [hE] at he
    cases he
    have hh := here_spec (xb := xb) hx h
    have hi : ∃ t v, ea = .iface t v := by cases ha <;> exact ⟨_, _, rfl⟩
    obtain ⟨t, v, rfl⟩ := hi
    refine ev_of (fun m => hx _ _ m (by decide)) Tryd.func15 rfl rfl ?_
    refine wc_seq ?_
    refine wc_region ?_
    refine wo_n rfl (nv_move rfl rfl) rfl rfl ?_
    refine wo_n rfl (nv_nil rfl rfl rfl) rfl rfl ?_
    refine wo_n rfl (nv_fa rfl rfl) rfl rfl ?_
    refine wo_m rfl (mv_load rfl rfl (by assumption)) rfl rfl ?_
    refine wo_n rfl (nv_eqlN rfl rfl rfl rfl) rfl rfl ?_
    refine wo_nil ?_
    refine thenW_n ?_
    refine wc_true rfl ?_
    refine wc_region ?_
    refine wo_n rfl (nv_move rfl rfl) rfl rfl ?_
    refine wo_n rfl (nv_move rfl rfl) rfl rfl ?_
    refine wo_call rfl rfl rfl hh rfl rfl ?_
    refine wo_n rfl (nv_move rfl rfl) rfl rfl ?_
    refine wo_n rfl (nv_buildS rfl rfl rfl) rfl rfl ?_
    refine wo_box rfl rfl rfl rfl rfl ?_
    intro g1 m1 o1 f1 l1
    have q1 := hp.obj.fr f1 (fun h => h)
    refine wo_n rfl (nv_mkI rfl rfl) rfl rfl ?_
    refine wo_n rfl (nv_nil rfl rfl rfl) rfl rfl ?_
    refine wo_n rfl (nv_fa rfl rfl) rfl rfl ?_
    refine wo_store rfl rfl rfl rfl (by assumption) rfl rfl (Nat.le_of_ble_eq_true rfl) rfl ?_
    intro m2 o2 f2 n2
    skip
    refine wo_nil ?_
    refine endW_none rfl ?_
    have f3 : Fr (fun q => q = pb) m m2 := (f1.mono (fun _ _ h => h.elim)).trans f2 (fun _ _ h => h)
    obtain ⟨t1, t2, t3, t4⟩ := hp.move h.dN h.dO f3 (fun _ _ h => h)
    have hgn : ¬ own pb oN oO g1 := fun hc => Nat.lt_irrefl _ (Nat.lt_of_lt_of_le (h.lt hc) l1)
    refine ⟨rfl, oN, oO, ⟨⟨tv, ov, nv, .iface 63 (.ptr g1 0), ⟨o2, t1, t2, t3, ?_⟩⟩, h.dN, h.dO, h.dd, h.nl, h.ol, h.d0, h.d1, f3.nw h.nw, fun x hx => Nat.lt_of_lt_of_le (h.lN x hx) f3.le, fun x hx => Nat.lt_of_lt_of_le (h.lO x hx) f3.le, by rw [f3.gl]; exact h.gl⟩, f3.mono (fun _ _ h => .inl h), fun _ _ h => h⟩
    have o3 := o1.fr f2 (fun hc => hgn (.inl hc))
    cases ha with
    | no c => exact .errno g1 c _ o3 hgn
    | want wb s hw hw' => exact .want g1 wb s _ o3 (hw.fr f3 (fun hc => hw' (.inl hc))) hgn hw'
omit hx in
theorem is_true {s : ByteArray} (h : is P s = true) : ∃ t r, P.err = none ∧ P.toks = t :: r ∧ isT t s = true := by
  unfold is next at h
  cases hE : P.err with
  | some z => rw [hE] at h; cases h
  | none =>
    rw [hE] at h
    cases hT : P.toks with
    | nil => rw [hT] at h; cases h
    | cons t r => rw [hT] at h; exact ⟨t, r, rfl, rfl, h⟩
omit hx in
theorem dropR (h : Rep m E pb oN oO P) {ov nv ev : V} {b off n c : Nat} (hp : Parts m E pb oN oO P (.sl b off n c 4) ov nv ev) {t : Tk} {r : List Tk} (hT : P.toks = t :: r) {m1 : Mem} (o1 : Blok m1 pb 46 [.sl b (off + 1 * 4) (n - 1) (c - 1) 4, .int .i64 E, ov, nv, ev, .int .i64 P.deep]) (f1 : Fr (fun q => q = pb) m m1) : Post m E pb oN oO m1 (drop1 P) := by
  obtain ⟨t1, t2, t3, t4⟩ := hp.move h.dN h.dO f1 (fun _ _ h => h)
  refine ⟨oN, oO, ⟨⟨_, _, _, _, ⟨o1, ?_, t2, t3, t4⟩⟩, h.dN, h.dO, h.dd, h.nl, h.ol, h.d0, h.d1, f1.nw h.nw, fun x hx => Nat.lt_of_lt_of_le (h.lN x hx) f1.le, fun x hx => Nat.lt_of_lt_of_le (h.lO x hx) f1.le, by rw [f1.gl]; exact h.gl⟩, f1.mono (fun _ _ h => .inl h), fun _ _ h => h⟩
  rw [hT] at t1
  show TokR m1 _ _ P.toks.tail
  rw [hT]
  cases t1 with
  | sl _ _ _ _ _ hn hts hc ho hb he =>
    rw [List.length_cons] at hn
    refine .sl b _ _ _ r (by omega) (fun i t ht => ?_) (by omega) ho hb he
    have := hts (i + 1) t (by simpa using ht)
    rwa [show off + (i + 1) * 4 = off + 1 * 4 + i * 4 by omega] at this
theorem take_spec (h : Rep m E pb oN oO P) (s : ByteArray) : ∃ m', Ev Tryd.prog xb ext 28 [.ptr pb 0, vs s] m (.bool (is P s)) m' ∧ Post m E pb oN oO m' (take s P).2 := by
  have hi := is_spec (xb := xb) hx h s
  refine ev_to ?_
  unfold take
  cases hs : is P s with
  | false =>
    rw [hs] at hi
    refine ev_of (fun m => hx _ _ m (by decide)) Tryd.func28 rfl rfl ?_
    refine wc_seq ?_
    refine wc_region ?_
    refine wo_n rfl (nv_assign rfl rfl) rfl rfl ?_
    refine wo_nil ?_
    refine thenW_n ?_
    refine wc_seq ?_
    refine wc_region ?_
    refine wo_n rfl (nv_move rfl rfl) rfl rfl ?_
    refine wo_n rfl (nv_move rfl rfl) rfl rfl ?_
    refine wo_call rfl rfl (by kernel_rfl) (hi) rfl rfl ?_
    refine wo_n rfl (nv_assign rfl rfl) rfl rfl ?_
    refine wo_nil ?_
    refine thenW_n ?_
    refine wc_seq ?_
    refine wc_seq ?_
    refine wc_region ?_
    refine wo_n rfl (nv_move rfl rfl) rfl rfl ?_
    refine wo_nil ?_
    refine thenW_n ?_
    refine wc_false rfl ?_
    refine wc_skip ?_
    refine thenW_n ?_
    refine wc_seq ?_
    refine wc_region ?_
    refine wo_n rfl (nv_move rfl rfl) rfl rfl ?_
    refine wo_n rfl (nv_assign rfl rfl) rfl rfl ?_
    refine wo_nil ?_
    refine thenW_n ?_
    refine wc_ret ?_
    refine endW_ret rfl rfl ?_
    exact ⟨rfl, .refl h⟩
  | true =>
    rw [hs] at hi
    obtain ⟨t, r, hE, hT, _⟩ := is_true hs
    obtain ⟨tv, ov, nv, ev, hp⟩ := h.ex
    have ht := hp.toks
    rw [hT] at ht
    cases ht with
    | sl b off c n _ hn hts hc ho hb =>
      rw [List.length_cons] at hn
      have h0 := hp.obj.cell (i := 0) rfl
      have q0 := hp.obj
      refine ev_of (fun m => hx _ _ m (by decide)) Tryd.func28 rfl rfl ?_
      refine wc_seq ?_
      refine wc_region ?_
      refine wo_n rfl (nv_assign rfl rfl) rfl rfl ?_
      refine wo_nil ?_
      refine thenW_n ?_
      refine wc_seq ?_
      refine wc_region ?_
      refine wo_n rfl (nv_move rfl rfl) rfl rfl ?_
      refine wo_n rfl (nv_move rfl rfl) rfl rfl ?_
      refine wo_call rfl rfl (by kernel_rfl) (hi) rfl rfl ?_
      refine wo_n rfl (nv_assign rfl rfl) rfl rfl ?_
      refine wo_nil ?_
      refine thenW_n ?_
      refine wc_seq ?_
      refine wc_seq ?_
      refine wc_region ?_
      refine wo_n rfl (nv_move rfl rfl) rfl rfl ?_
      refine wo_nil ?_
      refine thenW_n ?_
      refine wc_true rfl ?_
      refine wc_region ?_
      refine wo_n rfl (nv_move rfl rfl) rfl rfl ?_
      refine wo_n rfl (nv_move rfl rfl) rfl rfl ?_
      refine wo_n rfl (nv_nil rfl rfl rfl) rfl rfl ?_
      refine wo_n rfl (nv_fa rfl rfl) rfl rfl ?_
      refine wo_m rfl (mv_load rfl rfl (by assumption)) rfl rfl ?_
      refine wo_n rfl (nv_slice rfl rfl rfl rfl (slice_from (l := 1) (by first | assumption | omega) (by first | assumption | omega))) rfl rfl ?_
      refine wo_n rfl (nv_nil rfl rfl rfl) rfl rfl ?_
      refine wo_n rfl (nv_fa rfl rfl) rfl rfl ?_
      refine wo_store rfl rfl rfl rfl (by assumption) rfl rfl (Nat.le_of_ble_eq_true rfl) rfl ?_
      intro m1 o1 f1 n1
      skip
      refine wo_nil ?_
      refine thenW_n ?_
      refine wc_seq ?_
      refine wc_region ?_
      refine wo_n rfl (nv_move rfl rfl) rfl rfl ?_
      refine wo_n rfl (nv_assign rfl rfl) rfl rfl ?_
      refine wo_nil ?_
      refine thenW_n ?_
      refine wc_ret ?_
      refine endW_ret rfl rfl ?_
      exact ⟨rfl, dropR h hp hT o1 f1⟩
omit hx in
theorem Rep.alloc (h : Rep m E pb oN oO P) {m1 : Mem} (f : Fr (fun _ => False) m m1) : Rep m1 E pb oN oO P := by
  obtain ⟨tv, ov, nv, ev, hp⟩ := h.ex
  obtain ⟨t1, t2, t3, t4⟩ := hp.move h.dN h.dO f (fun _ _ h => h.elim)
  exact ⟨⟨_, _, _, _, ⟨hp.obj.fr f (fun h => h), t1, t2, t3, t4⟩⟩, h.dN, h.dO, h.dd, h.nl, h.ol, h.d0, h.d1, f.nw h.nw, fun x hx => Nat.lt_of_lt_of_le (h.lN x hx) f.le, fun x hx => Nat.lt_of_lt_of_le (h.lO x hx) f.le, by rw [f.gl]; exact h.gl⟩
omit hx in
theorem Post.alloc (h : Rep m E pb oN oO P) {m1 m2 : Mem} (f : Fr (fun _ => False) m m1) (k : Post m1 E pb oN oO m2 P') : Post m E pb oN oO m2 P' := by
  obtain ⟨a, b, k1, k2, k3⟩ := k
  exact ⟨a, b, k1, (f.mono (fun _ _ h => h.elim)).trans k2 (fun _ _ h => h), fun x hx hc => k3 x (Nat.lt_of_lt_of_le hx f.le) hc⟩
theorem must_spec (h : Rep m E pb oN oO P) (s : ByteArray) : ∃ m', Ev Tryd.prog xb ext 18 [.ptr pb 0, vs s] m (.tup []) m' ∧ Post m E pb oN oO m' (must E s P) := by
  obtain ⟨ma, hta, hpa⟩ := take_spec (xb := xb) hx h s
  refine ev_to ?_
  unfold must
  unfold take at hpa
  cases hs : is P s with
  | true =>
    rw [hs] at hta hpa
    refine ev_of (fun m => hx _ _ m (by decide)) Tryd.func18 rfl rfl ?_
    refine wc_seq ?_
    refine wc_region ?_
    refine wo_n rfl (nv_move rfl rfl) rfl rfl ?_
    refine wo_n rfl (nv_move rfl rfl) rfl rfl ?_
    refine wo_call rfl rfl (by kernel_rfl) (hta) rfl rfl ?_
    refine wo_n rfl (nv_not rfl rfl) rfl rfl ?_
    refine wo_nil ?_
    refine thenW_n ?_
    refine wc_false rfl ?_
    refine wc_skip ?_
    refine endW_none rfl ?_
    exact ⟨rfl, hpa⟩
  | false =>
    rw [hs] at hta hpa
    refine ev_of (fun m => hx _ _ m (by decide)) Tryd.func18 rfl rfl ?_
    obtain ⟨aN, aO, r1, r2, r3⟩ := hpa
    refine wc_seq ?_
    refine wc_region ?_
    refine wo_n rfl (nv_move rfl rfl) rfl rfl ?_
    refine wo_n rfl (nv_move rfl rfl) rfl rfl ?_
    refine wo_call rfl rfl (by kernel_rfl) (hta) rfl rfl ?_
    refine wo_n rfl (nv_not rfl rfl) rfl rfl ?_
    refine wo_nil ?_
    refine thenW_n ?_
    refine wc_true rfl ?_
    refine wc_region ?_
    refine wo_n rfl (nv_move rfl rfl) rfl rfl ?_
    refine wo_n rfl (nv_move rfl rfl) rfl rfl ?_
    refine wo_n rfl (nv_buildS rfl rfl rfl) rfl rfl ?_
    refine wo_box rfl rfl rfl rfl rfl ?_
    intro g1 m1 o1 f1 l1
    have r4 := r1.alloc f1
    have hgn : ¬ own pb aN aO g1 := fun hc => Nat.lt_irrefl _ (Nat.lt_of_lt_of_le (r1.lt hc) l1)
    obtain ⟨mf, hf, pf⟩ := fail_spec (xb := xb) hx r4 (.want g1 s o1 hgn)
    refine wo_n rfl (nv_mkI rfl rfl) rfl rfl ?_
    refine wo_call rfl rfl (by kernel_rfl) (hf) rfl rfl ?_
    refine wo_nil ?_
    refine endW_none rfl ?_
    exact ⟨rfl, .after r2 r3 (.alloc r1 f1 pf)⟩
theorem name_spec (h : Rep m E pb oN oO P) : ∃ m', Ev Tryd.prog xb ext 19 [.ptr pb 0] m (vs (name E P).1) m' ∧ Post m E pb oN oO m' (name E P).2 := by
  obtain ⟨v, hv, hN⟩ := next_spec (xb := xb) hx h
  refine ev_to ?_
  unfold name
  cases hT : next P with
  | none =>
    rw [hT] at hN
    cases hN
    refine ev_of (fun m => hx _ _ m (by decide)) Tryd.func19 rfl rfl ?_
    refine wc_seq ?_
    refine wc_region ?_
    refine wo_n rfl (nv_assign rfl rfl) rfl rfl ?_
    refine wo_nil ?_
    refine thenW_n ?_
    refine wc_seq ?_
    refine wc_region ?_
    refine wo_n rfl (nv_move rfl rfl) rfl rfl ?_
    refine wo_call rfl rfl (by kernel_rfl) (hv) rfl rfl ?_
    refine wo_n rfl (nv_assign rfl rfl) rfl rfl ?_
    refine wo_nil ?_
    refine thenW_n ?_
    refine wc_seq ?_
    refine wc_seq ?_
    refine wc_region ?_
    refine wo_n rfl (nv_move rfl rfl) rfl rfl ?_
    refine wo_n rfl (nv_eqlQ rfl rfl rfl) rfl rfl ?_
    refine wo_n rfl (nv_move rfl rfl) rfl rfl ?_
    refine wo_off rfl rfl rfl ?_
    refine wo_off rfl rfl rfl ?_
    refine wo_off rfl rfl rfl ?_
    refine wo_off rfl rfl rfl ?_
    refine wo_off rfl rfl rfl ?_
    refine wo_n rfl (nv_pickT rfl rfl rfl) rfl rfl ?_
    refine wo_nil ?_
    refine thenW_n ?_
    refine wc_true rfl ?_
    refine wc_seq ?_
    refine wc_region ?_
    refine wo_n rfl (nv_move rfl rfl) rfl rfl ?_
    refine wo_n rfl (nv_buildS rfl rfl rfl) rfl rfl ?_
    refine wo_box rfl rfl rfl rfl rfl ?_
    intro g1 m1 o1 f1 l1
    have r4 := h.alloc f1
    have hgn : ¬ own pb oN oO g1 := fun hc => Nat.lt_irrefl _ (Nat.lt_of_lt_of_le (h.lt hc) l1)
    obtain ⟨mf, hf, pf⟩ := fail_spec (xb := xb) hx r4 (.want g1 (txt [110, 97, 109, 101]) o1 hgn)
    refine wo_n rfl (nv_mkI rfl rfl) rfl rfl ?_
    refine wo_call rfl rfl (by kernel_rfl) (hf) rfl rfl ?_
    refine wo_nil ?_
    refine thenW_n ?_
    refine wc_seq ?_
    refine wc_region ?_
    refine wo_n rfl (nv_assign rfl rfl) rfl rfl ?_
    refine wo_nil ?_
    refine thenW_n ?_
    refine wc_ret ?_
    refine thenW_r ?_
    refine endW_ret rfl rfl ?_
    exact ⟨rfl, .alloc h f1 pf⟩
  | some t =>
    have hT' := hT
    rw [hT] at hN
    obtain ⟨b, o, rfl, hA, hno, hbl⟩ := hN
    have hk := hA.k
    have hs := hA.s
    dsimp only
    by_cases h0 : t.kind = 0
    · rw [if_pos h0]
      unfold next at hT'
      cases hE : P.err with
      | some z => rw [hE] at hT'; cases hT'
      | none =>
        rw [hE] at hT'
        obtain ⟨r, hTk⟩ : ∃ r, P.toks = t :: r := by
          cases hc : P.toks with
          | nil => rw [hc] at hT'; cases hT'
          | cons a r => rw [hc] at hT'; cases hT'; exact ⟨r, rfl⟩
        obtain ⟨tv, ov, nv, ev, hp⟩ := h.ex
        have ht := hp.toks
        rw [hTk] at ht
        cases ht with
        | sl b' off c n _ hn hts hc ho hb =>
          rw [List.length_cons] at hn
          have q0 := hp.obj.cell (i := 0) rfl
          have q1 := hp.obj
          refine ev_of (fun m => hx _ _ m (by decide)) Tryd.func19 rfl rfl ?_
          refine wc_seq ?_
          refine wc_region ?_
          refine wo_n rfl (nv_assign rfl rfl) rfl rfl ?_
          refine wo_nil ?_
          refine thenW_n ?_
          refine wc_seq ?_
          refine wc_region ?_
          refine wo_n rfl (nv_move rfl rfl) rfl rfl ?_
          refine wo_call rfl rfl (by kernel_rfl) (hv) rfl rfl ?_
          refine wo_n rfl (nv_assign rfl rfl) rfl rfl ?_
          refine wo_nil ?_
          refine thenW_n ?_
          refine wc_seq ?_
          refine wc_seq ?_
          refine wc_region ?_
          refine wo_n rfl (nv_move rfl rfl) rfl rfl ?_
          refine wo_n rfl (nv_eqlP rfl rfl rfl) rfl rfl ?_
          refine wo_n rfl (nv_move rfl rfl) rfl rfl ?_
          refine wo_n rfl (nv_move rfl rfl) rfl rfl ?_
          refine wo_n rfl (nv_nil rfl rfl rfl) rfl rfl ?_
          refine wo_n rfl (nv_fa rfl rfl) rfl rfl ?_
          refine wo_m rfl (mv_load rfl rfl (by assumption)) rfl rfl ?_
          refine wo_n rfl (nv_neqF rfl rfl rfl (by first | assumption | decide | omega)) rfl rfl ?_
          refine wo_n rfl (nv_pickF rfl rfl rfl) rfl rfl ?_
          refine wo_nil ?_
          refine thenW_n ?_
          refine wc_false rfl ?_
          refine wc_skip ?_
          refine thenW_n ?_
          refine wc_seq ?_
          refine wc_region ?_
          refine wo_n rfl (nv_move rfl rfl) rfl rfl ?_
          refine wo_n rfl (nv_move rfl rfl) rfl rfl ?_
          refine wo_n rfl (nv_nil rfl rfl rfl) rfl rfl ?_
          refine wo_n rfl (nv_fa rfl rfl) rfl rfl ?_
          refine wo_m rfl (mv_load rfl rfl (by assumption)) rfl rfl ?_
          refine wo_n rfl (nv_slice rfl rfl rfl rfl (slice_from (l := 1) (by first | assumption | omega) (by first | assumption | omega))) rfl rfl ?_
          refine wo_n rfl (nv_nil rfl rfl rfl) rfl rfl ?_
          refine wo_n rfl (nv_fa rfl rfl) rfl rfl ?_
          refine wo_store rfl rfl rfl rfl (by assumption) rfl rfl (Nat.le_of_ble_eq_true rfl) rfl ?_
          intro m1 o1 f1 n1
          have hs' := (hA.fr f1 hbl (fun hc => hno (.inl hc))).s
          refine wo_nil ?_
          refine thenW_n ?_
          refine wc_seq ?_
          refine wc_region ?_
          refine wo_n rfl (nv_move rfl rfl) rfl rfl ?_
          refine wo_n rfl (nv_nil rfl rfl rfl) rfl rfl ?_
          refine wo_n rfl (nv_fa rfl rfl) rfl rfl ?_
          refine wo_m rfl (mv_load rfl rfl (by assumption)) rfl rfl ?_
          refine wo_n rfl (nv_assign rfl rfl) rfl rfl ?_
          refine wo_nil ?_
          refine thenW_n ?_
          refine wc_ret ?_
          refine endW_ret rfl rfl ?_
          exact ⟨rfl, dropR h hp hTk o1 f1⟩
    · rw [if_neg h0]
      refine ev_of (fun m => hx _ _ m (by decide)) Tryd.func19 rfl rfl ?_
      refine wc_seq ?_
      refine wc_region ?_
      refine wo_n rfl (nv_assign rfl rfl) rfl rfl ?_
      refine wo_nil ?_
      refine thenW_n ?_
      refine wc_seq ?_
      refine wc_region ?_
      refine wo_n rfl (nv_move rfl rfl) rfl rfl ?_
      refine wo_call rfl rfl (by kernel_rfl) (hv) rfl rfl ?_
      refine wo_n rfl (nv_assign rfl rfl) rfl rfl ?_
      refine wo_nil ?_
      refine thenW_n ?_
      refine wc_seq ?_
      refine wc_seq ?_
      refine wc_region ?_
      refine wo_n rfl (nv_move rfl rfl) rfl rfl ?_
      refine wo_n rfl (nv_eqlP rfl rfl rfl) rfl rfl ?_
      refine wo_n rfl (nv_move rfl rfl) rfl rfl ?_
      refine wo_n rfl (nv_move rfl rfl) rfl rfl ?_
      refine wo_n rfl (nv_nil rfl rfl rfl) rfl rfl ?_
      refine wo_n rfl (nv_fa rfl rfl) rfl rfl ?_
      refine wo_m rfl (mv_load rfl rfl (by assumption)) rfl rfl ?_
      refine wo_n rfl (nv_neqT rfl rfl rfl (by first | assumption | decide | omega)) rfl rfl ?_
      refine wo_n rfl (nv_pickF rfl rfl rfl) rfl rfl ?_
      refine wo_nil ?_
      refine thenW_n ?_
      refine wc_true rfl ?_
      refine wc_seq ?_
      refine wc_region ?_
      refine wo_n rfl (nv_move rfl rfl) rfl rfl ?_
      refine wo_n rfl (nv_buildS rfl rfl rfl) rfl rfl ?_
      refine wo_box rfl rfl rfl rfl rfl ?_
      intro g1 m1 o1 f1 l1
      have r4 := h.alloc f1
      have hgn : ¬ own pb oN oO g1 := fun hc => Nat.lt_irrefl _ (Nat.lt_of_lt_of_le (h.lt hc) l1)
      obtain ⟨mf, hf, pf⟩ := fail_spec (xb := xb) hx r4 (.want g1 (txt [110, 97, 109, 101]) o1 hgn)
      refine wo_n rfl (nv_mkI rfl rfl) rfl rfl ?_
      refine wo_call rfl rfl (by kernel_rfl) (hf) rfl rfl ?_
      refine wo_nil ?_
      refine thenW_n ?_
      refine wc_seq ?_
      refine wc_region ?_
      refine wo_n rfl (nv_assign rfl rfl) rfl rfl ?_
      refine wo_nil ?_
      refine thenW_n ?_
      refine wc_ret ?_
      refine thenW_r ?_
      refine endW_ret rfl rfl ?_
      exact ⟨rfl, .alloc h f1 pf⟩
end
end Go.Proofs.YtoedpbjeangdhaaDoor.Sy

namespace Go.Proofs.YtoedpbjeangdhaaDoor.Sy
open Go Go.Ev Go.Ev.Pm
set_option linter.unusedVariables false
set_option linter.unusedSimpArgs false
set_option linter.unusedSectionVars false
section
variable {m m' : Mem} {E : Int} {pb : Nat} {oN oO : Nat → Prop} {P P' : PS}
theorem Rep.hasErr (h : Rep m E pb oN oO P) {z : Int × Int} (hE : P.err = some z) : ∃ tv ov nv t v, Parts m E pb oN oO P tv ov nv (.iface t v) := by
  obtain ⟨tv, ov, nv, ev, hp⟩ := h.ex
  have he := hp.err
  rw [hE] at he
  have : ∃ t v, ev = .iface t v := by cases he <;> exact ⟨_, _, rfl⟩
  obtain ⟨t, v, rfl⟩ := this
  exact ⟨_, _, _, _, _, hp⟩
theorem Rep.noErr (h : Rep m E pb oN oO P) (hE : P.err = .none) : ∃ tv ov nv, Parts m E pb oN oO P tv ov nv .nili := by
  obtain ⟨tv, ov, nv, ev, hp⟩ := h.ex
  have he := hp.err
  rw [hE] at he
  cases he
  exact ⟨_, _, _, hp⟩
theorem fail_err (c : Int) (P : PS) : ∃ z, (fail E c P).err = some z := by
  unfold fail
  cases h : P.err with
  | none => exact ⟨_, rfl⟩
  | some z => exact ⟨_, h⟩
theorem Post.step {m1 : Mem} {P1 P2 : PS} {X : Mem → Prop} (A : Post m E pb oN oO m1 P1) (k : ∀ oN1 oO1, Rep m1 E pb oN1 oO1 P1 → ∃ m2, X m2 ∧ Post m1 E pb oN1 oO1 m2 P2) : ∃ m2, X m2 ∧ Post m E pb oN oO m2 P2 := by
  obtain ⟨a, b, r, f, s⟩ := A
  obtain ⟨m2, x, q⟩ := k a b r
  exact ⟨m2, x, .after f s q⟩
theorem Post.le {m1 : Mem} {P1 : PS} (A : Post m E pb oN oO m1 P1) : m.next ≤ m1.next := by
  obtain ⟨a, b, r, f, s⟩ := A
  exact f.le
variable {xb : XB} {ext : CallF} (hx : ∀ (f : Nat) (a : List V) (m : Mem), f ∉ XS → ext f a m = none)
include hx
set_option maxHeartbeats 1000000 in
theorem put_spec (h : Rep m E pb oN oO P) (x : Nd) : ∃ m', Ev Tryd.prog xb ext 31 [.ptr pb 0, .agg (ndC x)] m (.int .i64 (put E x P).1) m' ∧ Post m E pb oN oO m' (put E x P).2 := by
  refine ev_to ?_
  by_cases hl : P.ns.length = 512
  · obtain ⟨z, hz⟩ := fail_err (E := E) 402 P
    have hput : put E x P = (0, fail E 402 P) := by unfold put; rw [if_pos hl]; dsimp only; rw [hz]
    rw [hput]
    refine ev_of (fun m => hx _ _ m (by decide)) Tryd.func31 rfl rfl ?_
    refine wc_seq ?_
    refine wc_region ?_
    refine wo_box rfl rfl rfl rfl rfl ?_
    intro g1 m1 o1 f1 l1
    have h1 := h.alloc f1
    obtain ⟨tv, ov, nv, ev, hp⟩ := h1.ex
    have c3 := hp.obj.cell (i := 3) rfl
    have hr := hp.ns
    refine wo_n rfl (nv_assign rfl rfl) rfl rfl ?_
    refine wo_nil ?_
    refine thenW_n ?_
    refine wc_seq ?_
    refine wc_seq ?_
    refine wc_region ?_
    refine wo_n rfl (nv_move rfl rfl) rfl rfl ?_
    refine wo_n rfl (nv_nil rfl rfl rfl) rfl rfl ?_
    refine wo_n rfl (nv_fa rfl rfl) rfl rfl ?_
    refine wo_m rfl (mv_load rfl rfl (by assumption)) rfl rfl ?_
    first
      | refine wo_n rfl (nv_lenS rfl rfl rfl) rfl rfl ?_
      | refine wo_n rfl (nv_lenN rfl rfl rfl) rfl rfl ?_
      | refine wo_n rfl (nv_lenR (by assumption) rfl rfl rfl) rfl rfl ?_
    refine wo_n rfl (nv_eqlT rfl rfl rfl (by first | assumption | decide | omega)) rfl rfl ?_
    refine wo_nil ?_
    refine thenW_n ?_
    refine wc_true rfl ?_
    refine wc_region ?_
    refine wo_n rfl (nv_move rfl rfl) rfl rfl ?_
    refine wo_n rfl (nv_mkI rfl rfl) rfl rfl ?_
    obtain ⟨mf, hf, pf⟩ := fail_spec (xb := xb) hx h1 (.no 402)
    refine wo_call rfl rfl (by kernel_rfl) (hf) rfl rfl ?_
    obtain ⟨aN, aO, r1, r2, r3⟩ := pf
    obtain ⟨tv2, ov2, nv2, t2, v2, hp2⟩ := r1.hasErr hz
    have c4 := hp2.obj.cell (i := 4) rfl
    refine wo_nil ?_
    refine thenW_n ?_
    refine wc_seq ?_
    refine wc_seq ?_
    refine wc_region ?_
    refine wo_n rfl (nv_move rfl rfl) rfl rfl ?_
    refine wo_n rfl (nv_nil rfl rfl rfl) rfl rfl ?_
    refine wo_n rfl (nv_fa rfl rfl) rfl rfl ?_
    refine wo_m rfl (mv_load rfl rfl (by assumption)) rfl rfl ?_
    refine wo_n rfl (nv_neqI rfl rfl rfl) rfl rfl ?_
    refine wo_nil ?_
    refine thenW_n ?_
    refine wc_true rfl ?_
    refine wc_seq ?_
    refine wc_region ?_
    refine wo_n rfl (nv_assign rfl rfl) rfl rfl ?_
    refine wo_nil ?_
    refine thenW_n ?_
    refine wc_ret ?_
    refine thenW_r ?_
    refine endW_ret rfl rfl ?_
    exact ⟨rfl, .alloc h f1 ⟨aN, aO, r1, r2, r3⟩⟩
  · cases hE : P.err with
    | some z =>
      have hput : put E x P = (0, P) := by unfold put; rw [if_neg hl]; dsimp only; rw [hE]
      rw [hput]
      refine ev_of (fun m => hx _ _ m (by decide)) Tryd.func31 rfl rfl ?_
      refine wc_seq ?_
      refine wc_region ?_
      refine wo_box rfl rfl rfl rfl rfl ?_
      intro g1 m1 o1 f1 l1
      have h1 := h.alloc f1
      obtain ⟨tv2, ov2, nv2, t2, v2, hp2⟩ := h1.hasErr hE
      have c3 := hp2.obj.cell (i := 3) rfl
      have hr := hp2.ns
      have c4 := hp2.obj.cell (i := 4) rfl
      refine wo_n rfl (nv_assign rfl rfl) rfl rfl ?_
      refine wo_nil ?_
      refine thenW_n ?_
      refine wc_seq ?_
      refine wc_seq ?_
      refine wc_region ?_
      refine wo_n rfl (nv_move rfl rfl) rfl rfl ?_
      refine wo_n rfl (nv_nil rfl rfl rfl) rfl rfl ?_
      refine wo_n rfl (nv_fa rfl rfl) rfl rfl ?_
      refine wo_m rfl (mv_load rfl rfl (by assumption)) rfl rfl ?_
      first
        | refine wo_n rfl (nv_lenS rfl rfl rfl) rfl rfl ?_
        | refine wo_n rfl (nv_lenN rfl rfl rfl) rfl rfl ?_
        | refine wo_n rfl (nv_lenR (by assumption) rfl rfl rfl) rfl rfl ?_
      refine wo_n rfl (nv_eqlF rfl rfl rfl (by first | assumption | decide | omega)) rfl rfl ?_
      refine wo_nil ?_
      refine thenW_n ?_
      refine wc_false rfl ?_
      refine wc_skip ?_
      refine thenW_n ?_
      refine wc_seq ?_
      refine wc_seq ?_
      refine wc_region ?_
      refine wo_n rfl (nv_move rfl rfl) rfl rfl ?_
      refine wo_n rfl (nv_nil rfl rfl rfl) rfl rfl ?_
      refine wo_n rfl (nv_fa rfl rfl) rfl rfl ?_
      refine wo_m rfl (mv_load rfl rfl (by assumption)) rfl rfl ?_
      refine wo_n rfl (nv_neqI rfl rfl rfl) rfl rfl ?_
      refine wo_nil ?_
      refine thenW_n ?_
      refine wc_true rfl ?_
      refine wc_seq ?_
      refine wc_region ?_
      refine wo_n rfl (nv_assign rfl rfl) rfl rfl ?_
      refine wo_nil ?_
      refine thenW_n ?_
      refine wc_ret ?_
      refine thenW_r ?_
      refine endW_ret rfl rfl ?_
      exact ⟨rfl, .alloc h f1 (.refl h1)⟩
    | none =>
      have hput : put E x P = (((P.ns.length : Nat) : Int), { P with ns := P.ns ++ [x] }) := by unfold put; rw [if_neg hl]; dsimp only; rw [hE]
      rw [hput]
      have hnl := h.nl
      refine ev_of (fun m => hx _ _ m (by decide)) Tryd.func31 rfl rfl ?_
      refine wc_seq ?_
      refine wc_region ?_
      refine wo_box rfl rfl rfl rfl rfl ?_
      intro g1 m1 o1 f1 l1
      have h1 := h.alloc f1
      obtain ⟨tv, ov, nv, hp⟩ := h1.noErr hE
      have c3 := hp.obj.cell (i := 3) rfl
      have hr := hp.ns
      have c4 := hp.obj.cell (i := 4) rfl
      have w1 := h1.nw
      have x1 := o1.rowAll (n := 10) rfl
      refine wo_n rfl (nv_assign rfl rfl) rfl rfl ?_
      refine wo_nil ?_
      refine thenW_n ?_
      refine wc_seq ?_
      refine wc_seq ?_
      refine wc_region ?_
      refine wo_n rfl (nv_move rfl rfl) rfl rfl ?_
      refine wo_n rfl (nv_nil rfl rfl rfl) rfl rfl ?_
      refine wo_n rfl (nv_fa rfl rfl) rfl rfl ?_
      refine wo_m rfl (mv_load rfl rfl (by assumption)) rfl rfl ?_
      first
        | refine wo_n rfl (nv_lenS rfl rfl rfl) rfl rfl ?_
        | refine wo_n rfl (nv_lenN rfl rfl rfl) rfl rfl ?_
        | refine wo_n rfl (nv_lenR (by assumption) rfl rfl rfl) rfl rfl ?_
      refine wo_n rfl (nv_eqlF rfl rfl rfl (by first | assumption | decide | omega)) rfl rfl ?_
      refine wo_nil ?_
      refine thenW_n ?_
      refine wc_false rfl ?_
      refine wc_skip ?_
      refine thenW_n ?_
      refine wc_seq ?_
      refine wc_seq ?_
      refine wc_region ?_
      refine wo_n rfl (nv_move rfl rfl) rfl rfl ?_
      refine wo_n rfl (nv_nil rfl rfl rfl) rfl rfl ?_
      refine wo_n rfl (nv_fa rfl rfl) rfl rfl ?_
      refine wo_m rfl (mv_load rfl rfl (by assumption)) rfl rfl ?_
      refine wo_n rfl (nv_neqN rfl rfl rfl rfl) rfl rfl ?_
      refine wo_nil ?_
      refine thenW_n ?_
      refine wc_false rfl ?_
      refine wc_skip ?_
      refine thenW_n ?_
      refine wc_seq ?_
      refine wc_draw (by kernel_rfl) ?_
      refine wd_cast (l' := [0, 1, 2, 3, 4, 5, 6, 7, 8, 9, 10]) (by kernel_rfl) rfl ?_
      refine wd_n rfl rfl rfl (nv_move rfl rfl) rfl rfl ?_
      refine wd_n rfl rfl rfl (nv_move rfl rfl) rfl rfl ?_
      refine wd_n rfl rfl rfl (nv_nil rfl rfl rfl) rfl rfl ?_
      refine wd_n rfl rfl rfl (nv_fa rfl rfl) rfl rfl ?_
      refine wd_load rfl rfl rfl rfl (by assumption) rfl rfl ?_
      refine wd_loadA rfl rfl rfl rfl (by assumption) rfl rfl ?_
      refine wd_bslice (by assumption) rfl rfl rfl rfl rfl rfl (by decide) rfl rfl ?_
      intro g2 m2 k2 o2 f2 l2
      have hr2 := hr.fr f2 (fun _ _ _ h => h)
      have x2 : m2.row g2 0 (1 * 10) = some (ndC x) := o2.rowAll rfl
      have l2' := hp.obj.fr f2 (fun h => h)
      refine wd_append rfl rfl rfl rfl (by assumption) (by first | rfl | simp) (by decide) rfl (by assumption) (by omega) (by kernel_rfl) (by kernel_rfl) rfl rfl ?_
      intro g3 m3 r3 f3 l3 t3
      have l3' := l2'.fr f3 h1.dN
      refine wd_n rfl rfl rfl (nv_nil rfl rfl rfl) rfl rfl ?_
      refine wd_n rfl rfl rfl (nv_fa rfl rfl) rfl rfl ?_
      refine wd_store rfl rfl rfl rfl rfl (by assumption) rfl rfl (Nat.le_of_ble_eq_true rfl) (by kernel_rfl) (by kernel_rfl) rfl ?_
      intro m4 o4 f4 n4
      have c5 := o4.cell (i := 3) rfl
      refine wd_nil ?_
      refine thenW_n ?_
      refine wc_seq ?_
      refine wc_region ?_
      refine wo_n rfl (nv_move rfl rfl) rfl rfl ?_
      refine wo_n rfl (nv_nil rfl rfl rfl) rfl rfl ?_
      refine wo_n rfl (nv_fa rfl rfl) rfl rfl ?_
      refine wo_m rfl (mv_load rfl rfl (by assumption)) rfl rfl ?_
      first
        | refine wo_n rfl (nv_lenS rfl rfl rfl) rfl rfl ?_
        | refine wo_n rfl (nv_lenN rfl rfl rfl) rfl rfl ?_
        | refine wo_n rfl (nv_lenR (by assumption) rfl rfl rfl) rfl rfl ?_
      refine wo_n rfl (nv_sub rfl rfl rfl rfl (by first | decide | omega) (by first | decide | omega)) rfl rfl ?_
      refine wo_n rfl (nv_assign rfl rfl) rfl rfl ?_
      refine wo_nil ?_
      refine thenW_n ?_
      refine wc_ret ?_
      refine endW_ret rfl rfl ?_
      refine ⟨by simp <;> omega, .alloc h f1 ?_⟩
      have fM : Fr (fun q => q = pb ∨ oN q) m1 m4 := ((f2.mono (fun _ _ h => h.elim)).trans (f3.mono fun _ _ h => .inr h) (fun _ _ h => h)).trans (f4.mono fun _ _ h => .inl h) (fun _ _ h => h)
      have fN : Fr (own pb oN oO) m1 m4 := fM.mono fun _ _ h => by
        rcases h with h | h
        · exact .inl h
        · exact .inr (.inl h)
      have d0 : ∀ x, x < m1.next → ¬ (x = g3) := fun y hy e => by
        have := f2.le
        omega
      have hpb := hp.obj.lt
      obtain ⟨t1, t2, t3, t4⟩ := hp.move (S := fun _ => False) h1.dN h1.dO f2 (fun _ _ h => h.elim)
      have gp : ¬ (pb = g3) := d0 pb hpb
      refine ⟨fun x => oN x ∨ x = g3, oO, ⟨⟨tv, ov, _, .nili, ⟨o4, ?_, ?_, ?_, ?_⟩⟩, ?_, h1.dO, ?_, ?_, h1.ol, h1.d0, h1.d1, fN.nw w1, ?_, ?_, by rw [fN.gl]; exact h1.gl⟩, fN, ?_⟩
      · exact hp.toks.fr fN (fun _ _ h => h) (fun y hy k => by
          rcases k with k | (k | k) | k
          · exact .inl k
          · exact .inr (.inl k)
          · exact absurd k (d0 y hy)
          · exact .inr (.inr k))
      · refine (hp.ops.fr fM (fun y hy k c => ?_))
        rcases c with c | c
        · exact h1.dO (c ▸ k)
        · exact h1.dd y c k
      · have := r3.fr f4 (fun y hy k c => by
          rcases k with k | k
          · exact h1.dN (c ▸ k)
          · exact gp (c ▸ k))
        simpa using this
      · rw [hE]; exact .none
      · rintro (k | k)
        · exact h1.dN k
        · exact gp k
      · rintro y (k | k) c
        · exact h1.dd y k c
        · exact d0 y (h1.lO y c) k
      · simp; omega
      · rintro y (k | k)
        · exact Nat.lt_of_lt_of_le (h1.lN y k) fN.le
        · have := f4.le; omega
      · exact fun y k => Nat.lt_of_lt_of_le (h1.lO y k) fN.le
      · rintro y hy (k | (k | k) | k)
        · exact .inl k
        · exact .inr (.inl k)
        · exact absurd k (d0 y hy)
        · exact .inr (.inr k)
end
end Go.Proofs.YtoedpbjeangdhaaDoor.Sy

namespace Go.Proofs.YtoedpbjeangdhaaDoor.Sy
open Go Go.Ev Go.Ev.Pm
set_option linter.unusedVariables false
set_option linter.unusedSimpArgs false
set_option linter.unusedSectionVars false
structure Wx (m : Mem) (E : Int) (pb : Nat) (oN oO : Nat → Prop) (el : Nat) (g : Nat) (cs : List V) (m' : Mem) (P' : PS) : Prop where
  b : Blok m' g el cs
  p : ∃ oN' oO', Rep m' E pb oN' oO' P' ∧ ¬ own pb oN' oO' g ∧ Sub m (own pb oN oO) (own pb oN' oO')
  f : Fr (own pb oN oO) m m'
  hg : m.next ≤ g
section
variable {m m' : Mem} {E : Int} {pb : Nat} {oN oO : Nat → Prop} {P P' : PS} {el g : Nat} {cs : List V}
theorem Wx.start (A : Post m E pb oN oO m' P') {m2 : Mem} (o : Blok m2 g el cs) (f : Fr (fun _ => False) m' m2) (l : m'.next ≤ g) : Wx m E pb oN oO el g cs m2 P' := by
  obtain ⟨a, b, r, f0, s⟩ := A
  have := f0.le
  exact ⟨o, ⟨a, b, r.alloc f, fun c => Nat.lt_irrefl _ (Nat.lt_of_lt_of_le (r.lt c) l), s⟩, f0.trans (f.mono (fun _ _ h => h.elim)) (fun _ _ h => h), by omega⟩
theorem Wx.call {m1 : Mem} {P1 P2 : PS} {X : Mem → Prop} (w : Wx m E pb oN oO el g cs m1 P1) (k : ∀ oN1 oO1, Rep m1 E pb oN1 oO1 P1 → ∃ m2, X m2 ∧ Post m1 E pb oN1 oO1 m2 P2) : ∃ m2, X m2 ∧ Wx m E pb oN oO el g cs m2 P2 ∧ m1.next ≤ m2.next := by
  obtain ⟨a, b, r, hn, s⟩ := w.p
  obtain ⟨m2, x, c, d, r2, f2, s2⟩ := k a b r
  refine ⟨m2, x, ⟨w.b.fr f2 hn, ⟨c, d, r2, fun k => hn (s2 g w.b.lt k), fun y hy k => s y hy (s2 y (Nat.lt_of_lt_of_le hy w.f.le) k)⟩, w.f.trans f2 (fun q hq k => s q hq k), w.hg⟩, f2.le⟩
theorem Rep.aside {m1 m2 : Mem} {aN aO : Nat → Prop} (r : Rep m1 E pb aN aO P) (f : Fr (fun q => q = g) m1 m2) (hg : ¬ own pb aN aO g) (he : elOf m1 g = some el) (h1 : el ≠ 60) (h2 : el ≠ 65) (h3 : el ≠ 54) : Rep m2 E pb aN aO P := by
  obtain ⟨tv, ov, nv, ev, hp⟩ := r.ex
  have hS : ∀ x, own pb aN aO x → ¬ (x = g) := fun x k e => hg (e ▸ k)
  refine ⟨⟨_, _, _, _, ⟨hp.obj.fr f (hS _ (.inl rfl)), hp.toks.far f (fun x hx e => ?_) (fun _ _ h => h), hp.ops.fr f (fun x hx k c => hS x (.inr (.inr k)) c), hp.ns.fr f (fun x hx k c => hS x (.inr (.inl k)) c), hp.err.far f (fun x hx e => ?_) (fun _ _ h => h)⟩⟩, r.dN, r.dO, r.dd, r.nl, r.ol, r.d0, r.d1, f.nw r.nw, fun x hx => Nat.lt_of_lt_of_le (r.lN x hx) f.le, fun x hx => Nat.lt_of_lt_of_le (r.lO x hx) f.le, by rw [f.gl]; exact r.gl⟩
  · subst e; rw [he] at hx; exact h1 (Option.some.inj hx)
  · subst e; rw [he] at hx
    rcases hx with hx | hx
    · exact h2 (Option.some.inj hx)
    · exact h3 (Option.some.inj hx)
theorem Wx.store {m1 m2 : Mem} {P1 : PS} {cs' : List V} (w : Wx m E pb oN oO el g cs m1 P1) (o : Blok m2 g el cs') (f : Fr (fun q => q = g) m1 m2) (h1 : el ≠ 60 := by decide) (h2 : el ≠ 65 := by decide) (h3 : el ≠ 54 := by decide) : Wx m E pb oN oO el g cs' m2 P1 := by
  obtain ⟨a, b, r, hn, s⟩ := w.p
  have hg := w.hg
  refine ⟨o, ⟨a, b, r.aside f hn (Blok.elOf w.b) h1 h2 h3, hn, s⟩, ⟨fun q => f.nw (w.f.nw q), f.gl.trans w.f.gl, Nat.le_trans w.f.le f.le, fun q hq hk => ?_⟩, hg⟩
  obtain ⟨e1, e2⟩ := w.f.eq q hq hk
  obtain ⟨e3, e4⟩ := f.eq q (Nat.lt_of_lt_of_le hq w.f.le) (fun e => by omega)
  exact ⟨e3.trans e1, e4.trans e2⟩
theorem Wx.done {m1 : Mem} {P1 : PS} (w : Wx m E pb oN oO el g cs m1 P1) : Post m E pb oN oO m1 P1 := by
  obtain ⟨a, b, r, hn, s⟩ := w.p
  exact ⟨a, b, r, w.f, s⟩
variable {xb : XB} {ext : CallF} (hx : ∀ (f : Nat) (a : List V) (m : Mem), f ∉ XS → ext f a m = none)
include hx
theorem base_spec (h : Rep m E pb oN oO P) : ∃ m', Ev Tryd.prog xb ext 20 [.ptr pb 0] m (.int .i64 (base E P).1) m' ∧ Post m E pb oN oO m' (base E P).2 := by
  obtain ⟨ma, hta, hpa⟩ := take_spec (xb := xb) hx h kint
  refine ev_to ?_
  unfold base
  unfold take at hpa
  cases hs : is P kint with
  | true =>
    rw [hs] at hta hpa
    refine ev_of (fun m => hx _ _ m (by decide)) Tryd.func20 rfl rfl ?_
    refine wc_seq ?_
    refine wc_region ?_
    refine wo_n rfl (nv_assign rfl rfl) rfl rfl ?_
    refine wo_nil ?_
    refine thenW_n ?_
    refine wc_seq ?_
    refine wc_seq ?_
    refine wc_region ?_
    refine wo_n rfl (nv_move rfl rfl) rfl rfl ?_
    refine wo_call rfl rfl (by kernel_rfl) (hta) rfl rfl ?_
    refine wo_nil ?_
    refine thenW_n ?_
    refine wc_true rfl ?_
    refine wc_seq ?_
    refine wc_region ?_
    refine wo_n rfl (nv_assign rfl rfl) rfl rfl ?_
    refine wo_nil ?_
    refine thenW_n ?_
    refine wc_ret ?_
    refine thenW_r ?_
    refine endW_ret rfl rfl ?_
    exact ⟨rfl, hpa⟩
  | false =>
    rw [hs] at hta hpa
    obtain ⟨mb, htb, hpb⟩ := hpa.step fun _ _ r => must_spec (xb := xb) hx r kbool
    refine ev_of (fun m => hx _ _ m (by decide)) Tryd.func20 rfl rfl ?_
    refine wc_seq ?_
    refine wc_region ?_
    refine wo_n rfl (nv_assign rfl rfl) rfl rfl ?_
    refine wo_nil ?_
    refine thenW_n ?_
    refine wc_seq ?_
    refine wc_seq ?_
    refine wc_region ?_
    refine wo_n rfl (nv_move rfl rfl) rfl rfl ?_
    refine wo_call rfl rfl (by kernel_rfl) (hta) rfl rfl ?_
    refine wo_nil ?_
    refine thenW_n ?_
    refine wc_false rfl ?_
    refine wc_skip ?_
    refine thenW_n ?_
    refine wc_seq ?_
    refine wc_region ?_
    refine wo_n rfl (nv_move rfl rfl) rfl rfl ?_
    refine wo_call rfl rfl (by kernel_rfl) (htb) rfl rfl ?_
    refine wo_nil ?_
    refine thenW_n ?_
    refine wc_seq ?_
    refine wc_region ?_
    refine wo_n rfl (nv_assign rfl rfl) rfl rfl ?_
    refine wo_nil ?_
    refine thenW_n ?_
    refine wc_ret ?_
    refine endW_ret rfl rfl ?_
    exact ⟨rfl, hpb⟩
end
end Go.Proofs.YtoedpbjeangdhaaDoor.Sy

namespace Go.Proofs.YtoedpbjeangdhaaDoor.Sy
open Go Go.Ev Go.Ev.Pm
set_option linter.unusedVariables false
set_option linter.unusedSimpArgs false
set_option linter.unusedSectionVars false
def sg : Nat → ByteArray
  | 0 => kadd | 1 => ksub | 2 => kmul | 3 => kquo | 4 => keq | _ => klt
def lv : Nat → ByteArray
  | 0 => ⟨#[61, 61, 32, 60]⟩ | 1 => ⟨#[43, 32, 45]⟩ | _ => ⟨#[42, 32, 47]⟩
def cont : Nat → Nat → Bool
  | 0, j => Nat.beq j 4 || Nat.beq j 5
  | 1, j => Nat.beq j 0 || Nat.beq j 1
  | _, j => Nat.beq j 2 || Nat.beq j 3
structure XH (ext : CallF) : Prop where
  no : ∀ (f : Nat) (a : List V) (m : Mem), f ∉ XS → ext f a m = none
  lev : ∀ m, Good m.gl → ∃ g m1, ext 44 [] m = some (.sl g 0 3 3 1, m1) ∧ Fr (fun _ => False) m m1 ∧ ∀ l, l < 3 → m1.cell g l = some (vs (lv l))
  pri : ∀ m, Good m.gl → ∃ g m1, ext 56 [vs (txt [43, 32, 45, 32, 42, 32, 47, 32, 61, 61, 32, 60]), vs (txt [32])] m = some (.sl g 0 6 6 1, m1) ∧ Fr (fun _ => False) m m1 ∧ g < m1.next ∧ ∀ j, j < 6 → m1.cell g j = some (vs (sg j))
  con : ∀ m l j, Good m.gl → l < 3 → j < 6 → ext 60 [vs (txt [32] ++ lv l ++ txt [32]), vs (txt [32] ++ sg j ++ txt [32])] m = some (.bool (cont l j), m)
theorem lv_size (l : Nat) : (lv l).size ≤ 4 := by unfold lv; split <;> decide
theorem sg_size (j : Nat) : (sg j).size ≤ 2 := by unfold sg; split <;> decide
section
variable {m m' : Mem} {E : Int} {pb : Nat} {oN oO : Nat → Prop} {P P' : PS}
variable {xb : XB} {ext : CallF} (hX : XH ext)
include hX
theorem prims_spec (hm : Good m.gl) : ∃ g m1, Ev Tryd.prog xb ext 59 [] m (.sl g 0 6 6 1) m1 ∧ Fr (fun _ => False) m m1 ∧ g < m1.next ∧ ∀ j, j < 6 → m1.cell g j = some (vs (sg j)) := by
  obtain ⟨g, m1, h1, h2, h3, h4⟩ := hX.pri m hm
  refine ⟨g, ?_⟩
  refine ev_to ?_
  have hv := ev_ext (p := Tryd.prog) (xb := xb) h1
  refine ev_of (fun m => hX.no _ _ m (by decide)) Tryd.func59 rfl rfl ?_
  refine wc_seq ?_
  refine wc_region ?_
  refine wo_n rfl (nv_assign rfl rfl) rfl rfl ?_
  refine wo_nil ?_
  refine thenW_n ?_
  refine wc_seq ?_
  refine wc_region ?_
  refine wo_call rfl rfl (by kernel_rfl) (hv) rfl rfl ?_
  refine wo_n rfl (nv_assign rfl rfl) rfl rfl ?_
  refine wo_nil ?_
  refine thenW_n ?_
  refine wc_ret ?_
  refine endW_ret rfl rfl ?_
  exact ⟨rfl, h2, h3, h4⟩
def hit (l j : Nat) (P : PS) : Bool := cont l j && is P (sg j)
omit hX in
theorem prim_of {l : Nat} (hl : l < 3) {k : Nat} (hk : k < 6) (h : hit l k P = true) (hn : ∀ j, j < k → hit l j P = false) : prim l P = some (k : Int) := by
  have h3 : l = 0 ∨ l = 1 ∨ l = 2 := by omega
  have h6 : k = 0 ∨ k = 1 ∨ k = 2 ∨ k = 3 ∨ k = 4 ∨ k = 5 := by omega
  rcases h3 with rfl | rfl | rfl <;> rcases h6 with rfl | rfl | rfl | rfl | rfl | rfl <;> simp [hit, cont, sg] at h <;> simp only [prim]
  · rw [if_pos h]; rfl
  · have := hn 4 (by omega); simp [hit, cont, sg] at this; rw [this, if_neg (by decide), if_pos h]; rfl
  · rw [if_pos h]; rfl
  · have := hn 0 (by omega); simp [hit, cont, sg] at this; rw [this, if_neg (by decide), if_pos h]; rfl
  · rw [if_pos h]; rfl
  · have := hn 2 (by omega); simp [hit, cont, sg] at this; rw [this, if_neg (by decide), if_pos h]; rfl
omit hX in
theorem prim_none {l : Nat} (hl : l < 3) (hn : ∀ j, j < 6 → hit l j P = false) : prim l P = none := by
  have h3 : l = 0 ∨ l = 1 ∨ l = 2 := by omega
  rcases h3 with rfl | rfl | rfl <;> simp only [prim]
  · have a := hn 4 (by omega); have b := hn 5 (by omega); simp [hit, cont, sg] at a b; rw [a, b]; rfl
  · have a := hn 0 (by omega); have b := hn 1 (by omega); simp [hit, cont, sg] at a b; rw [a, b]; rfl
  · have a := hn 2 (by omega); have b := hn 3 (by omega); simp [hit, cont, sg] at a b; rw [a, b]; rfl
def primI (l : Nat) (P : PS) : Int := (prim l P).getD (-1)
theorem prim_spec (h : Rep m E pb oN oO P) {l : Nat} (hl : l < 3) : ∃ m', Ev Tryd.prog xb ext 46 [.ptr pb 0, .int .i64 l] m (.int .i64 (primI l P)) m' ∧ Post m E pb oN oO m' P := by
  obtain ⟨gp, mp, hp, fp, lp, cp⟩ := prims_spec (xb := xb) hX h.gl
  refine ev_to ?_
  refine ev_of (fun m => hX.no _ _ m (by decide)) Tryd.func46 rfl rfl ?_
  refine wc_seq ?_
  refine wc_region ?_
  refine wo_n rfl (nv_assign rfl rfl) rfl rfl ?_
  refine wo_nil ?_
  refine thenW_n ?_
  refine wc_seq ?_
  refine wc_seq ?_
  refine wc_region ?_
  refine wo_call rfl rfl (by kernel_rfl) (hp) rfl rfl ?_
  first
    | refine wo_n rfl (nv_lenS rfl rfl rfl) rfl rfl ?_
    | refine wo_n rfl (nv_lenN rfl rfl rfl) rfl rfl ?_
    | refine wo_n rfl (nv_lenR (by assumption) rfl rfl rfl) rfl rfl ?_
  refine wo_n rfl (nv_move rfl rfl) rfl rfl ?_
  refine wo_nil ?_
  refine thenW_n ?_
  refine wc_block ?_
  refine wc_loop (fun n e m' => ∃ j : Nat, n = 6 - j ∧ j ≤ 6 ∧ ELe (envL [(0, .ptr pb 0), (1, .int .i64 l), (7, .sl gp 0 6 6 1), (8, .int .i64 6), (9, .int .i64 j)]) e ∧ Fr (fun _ => False) mp m' ∧ ∀ i, i < j → hit l i P = false) 6 ⟨0, rfl, by omega, ?_, Fr.refl _ _, fun i hi => by omega⟩ ?_
  · exact .cons rfl (.cons rfl (.cons rfl (.cons rfl (.cons rfl (.nil _)))))
  rintro n e mj ⟨j, rfl, hj6, he, fj, hn⟩
  have f2 : Fr (fun _ => False) m mj := fp.trans fj (fun _ _ h => h)
  have r2 := h.alloc f2
  refine Wc.weak ?_ he
  have sl := lv_size l
  have ss := sg_size j
  rcases Nat.lt_or_ge j 6 with hj | hj
  · have c6 : mj.cell gp (0 + j * 1) = some (vs (sg j)) := by
      rw [fr_cell fj lp (fun h => h), Nat.zero_add, Nat.mul_one]; exact cp j hj
    obtain ⟨gl, ml, hlv, fl, cl⟩ := hX.lev mj r2.gl
    have hlv' := ev_ext (p := Tryd.prog) (xb := xb) hlv
    have c3 : ml.cell gl (0 + l * 1) = some (vs (lv l)) := by rw [Nat.zero_add, Nat.mul_one]; exact cl l hl
    have r3 := r2.alloc fl
    have hc := ev_ext (p := Tryd.prog) (xb := xb) (hX.con ml l j r3.gl hl hj)
    cases hcb : cont l j with
    | false =>
      rw [hcb] at hc
      refine wc_seq ?_
      refine wc_region ?_
      refine wo_n rfl (nv_lssT rfl rfl rfl (by first | assumption | decide | omega)) rfl rfl ?_
      refine wo_nil ?_
      refine thenW_n ?_
      refine wc_seq ?_
      refine wc_true rfl ?_
      refine wc_skip ?_
      refine thenW_n ?_
      refine wc_seq ?_
      refine wc_block ?_
      refine wc_seq ?_
      refine wc_region ?_
      refine wo_n rfl (nv_move rfl rfl) rfl rfl ?_
      refine wo_n rfl (nv_ia rfl rfl rfl (ia_sl (by first | assumption | omega))) rfl rfl ?_
      refine wo_m rfl (mv_load rfl rfl (by assumption)) rfl rfl ?_
      refine wo_n rfl (nv_assign rfl rfl) rfl rfl ?_
      refine wo_n rfl (nv_assign rfl rfl) rfl rfl ?_
      refine wo_nil ?_
      refine thenW_n ?_
      refine wc_seq ?_
      refine wc_region ?_
      refine wo_call rfl rfl (by kernel_rfl) (hlv') rfl rfl ?_
      refine wo_n rfl (nv_move rfl rfl) rfl rfl ?_
      refine wo_n rfl (nv_ia rfl rfl rfl (ia_sl (by first | assumption | omega))) rfl rfl ?_
      refine wo_m rfl (mv_load rfl rfl (by assumption)) rfl rfl ?_
      refine wo_n rfl (nv_sadd (s := txt [32]) rfl (show _ = some (vs (txt [32])) by kernel_rfl) rfl (by first | assumption | (simp only [ByteArray.size_append, txt_size, List.length]; omega))) rfl rfl ?_
      refine wo_n rfl (nv_sadd (u := txt [32]) rfl rfl (show _ = some (vs (txt [32])) by kernel_rfl) (by first | assumption | (simp only [ByteArray.size_append, txt_size, List.length]; omega))) rfl rfl ?_
      refine wo_n rfl (nv_move rfl rfl) rfl rfl ?_
      refine wo_n rfl (nv_sadd (s := txt [32]) rfl (show _ = some (vs (txt [32])) by kernel_rfl) rfl (by first | assumption | (simp only [ByteArray.size_append, txt_size, List.length]; omega))) rfl rfl ?_
      refine wo_n rfl (nv_sadd (u := txt [32]) rfl rfl (show _ = some (vs (txt [32])) by kernel_rfl) (by first | assumption | (simp only [ByteArray.size_append, txt_size, List.length]; omega))) rfl rfl ?_
      refine wo_call rfl rfl (by kernel_rfl) (hc) rfl rfl ?_
      refine wo_n rfl (nv_move rfl rfl) rfl rfl ?_
      refine wo_off rfl rfl rfl ?_
      refine wo_off rfl rfl rfl ?_
      refine wo_off rfl rfl rfl ?_
      refine wo_n rfl (nv_pickF rfl rfl rfl) rfl rfl ?_
      refine wo_nil ?_
      refine thenW_n ?_
      refine wc_false rfl ?_
      refine wc_skip ?_
      refine blockW_n ?_
      refine thenW_n ?_
      refine wc_region ?_
      refine wo_n rfl (nv_add rfl rfl rfl rfl (by first | decide | omega) (by first | decide | omega)) rfl rfl ?_
      refine wo_n rfl (nv_move rfl rfl) rfl rfl ?_
      refine wo_nil ?_
      refine ⟨6 - (j + 1), by omega, j + 1, rfl, by omega, ?_, fj.trans fl (fun _ _ h => h), fun i hi => ?_⟩
      · exact .cons rfl (.cons rfl (.cons rfl (.cons rfl (.cons rfl (.nil _)))))
      · rcases Nat.lt_or_ge i j with h1 | h1
        · exact hn i h1
        · have : i = j := by omega
          subst this; simp [hit, hcb]
    | true =>
      rw [hcb] at hc
      have hi := is_spec (xb := xb) hX.no r3 (sg j)
      cases hs : is P (sg j) with
      | false =>
        rw [hs] at hi
        refine wc_seq ?_
        refine wc_region ?_
        refine wo_n rfl (nv_lssT rfl rfl rfl (by first | assumption | decide | omega)) rfl rfl ?_
        refine wo_nil ?_
        refine thenW_n ?_
        refine wc_seq ?_
        refine wc_true rfl ?_
        refine wc_skip ?_
        refine thenW_n ?_
        refine wc_seq ?_
        refine wc_block ?_
        refine wc_seq ?_
        refine wc_region ?_
        refine wo_n rfl (nv_move rfl rfl) rfl rfl ?_
        refine wo_n rfl (nv_ia rfl rfl rfl (ia_sl (by first | assumption | omega))) rfl rfl ?_
        refine wo_m rfl (mv_load rfl rfl (by assumption)) rfl rfl ?_
        refine wo_n rfl (nv_assign rfl rfl) rfl rfl ?_
        refine wo_n rfl (nv_assign rfl rfl) rfl rfl ?_
        refine wo_nil ?_
        refine thenW_n ?_
        refine wc_seq ?_
        refine wc_region ?_
        refine wo_call rfl rfl (by kernel_rfl) (hlv') rfl rfl ?_
        refine wo_n rfl (nv_move rfl rfl) rfl rfl ?_
        refine wo_n rfl (nv_ia rfl rfl rfl (ia_sl (by first | assumption | omega))) rfl rfl ?_
        refine wo_m rfl (mv_load rfl rfl (by assumption)) rfl rfl ?_
        refine wo_n rfl (nv_sadd (s := txt [32]) rfl (show _ = some (vs (txt [32])) by kernel_rfl) rfl (by first | assumption | (simp only [ByteArray.size_append, txt_size, List.length]; omega))) rfl rfl ?_
        refine wo_n rfl (nv_sadd (u := txt [32]) rfl rfl (show _ = some (vs (txt [32])) by kernel_rfl) (by first | assumption | (simp only [ByteArray.size_append, txt_size, List.length]; omega))) rfl rfl ?_
        refine wo_n rfl (nv_move rfl rfl) rfl rfl ?_
        refine wo_n rfl (nv_sadd (s := txt [32]) rfl (show _ = some (vs (txt [32])) by kernel_rfl) rfl (by first | assumption | (simp only [ByteArray.size_append, txt_size, List.length]; omega))) rfl rfl ?_
        refine wo_n rfl (nv_sadd (u := txt [32]) rfl rfl (show _ = some (vs (txt [32])) by kernel_rfl) (by first | assumption | (simp only [ByteArray.size_append, txt_size, List.length]; omega))) rfl rfl ?_
        refine wo_call rfl rfl (by kernel_rfl) (hc) rfl rfl ?_
        refine wo_n rfl (nv_move rfl rfl) rfl rfl ?_
        refine wo_n rfl (nv_move rfl rfl) rfl rfl ?_
        refine wo_n rfl (nv_move rfl rfl) rfl rfl ?_
        refine wo_call rfl rfl (by kernel_rfl) (hi) rfl rfl ?_
        refine wo_n rfl (nv_pickT rfl rfl rfl) rfl rfl ?_
        refine wo_nil ?_
        refine thenW_n ?_
        refine wc_false rfl ?_
        refine wc_skip ?_
        refine blockW_n ?_
        refine thenW_n ?_
        refine wc_region ?_
        refine wo_n rfl (nv_add rfl rfl rfl rfl (by first | decide | omega) (by first | decide | omega)) rfl rfl ?_
        refine wo_n rfl (nv_move rfl rfl) rfl rfl ?_
        refine wo_nil ?_
        refine ⟨6 - (j + 1), by omega, j + 1, rfl, by omega, ?_, fj.trans fl (fun _ _ h => h), fun i hi => ?_⟩
        · exact .cons rfl (.cons rfl (.cons rfl (.cons rfl (.cons rfl (.nil _)))))
        · rcases Nat.lt_or_ge i j with h1 | h1
          · exact hn i h1
          · have : i = j := by omega
            subst this; simp [hit, hs]
      | true =>
        rw [hs] at hi
        have hpr : primI l P = j := by unfold primI; rw [prim_of hl hj (by simp [hit, hcb, hs]) hn]; rfl
        refine wc_seq ?_
        refine wc_region ?_
        refine wo_n rfl (nv_lssT rfl rfl rfl (by first | assumption | decide | omega)) rfl rfl ?_
        refine wo_nil ?_
        refine thenW_n ?_
        refine wc_seq ?_
        refine wc_true rfl ?_
        refine wc_skip ?_
        refine thenW_n ?_
        refine wc_seq ?_
        refine wc_block ?_
        refine wc_seq ?_
        refine wc_region ?_
        refine wo_n rfl (nv_move rfl rfl) rfl rfl ?_
        refine wo_n rfl (nv_ia rfl rfl rfl (ia_sl (by first | assumption | omega))) rfl rfl ?_
        refine wo_m rfl (mv_load rfl rfl (by assumption)) rfl rfl ?_
        refine wo_n rfl (nv_assign rfl rfl) rfl rfl ?_
        refine wo_n rfl (nv_assign rfl rfl) rfl rfl ?_
        refine wo_nil ?_
        refine thenW_n ?_
        refine wc_seq ?_
        refine wc_region ?_
        refine wo_call rfl rfl (by kernel_rfl) (hlv') rfl rfl ?_
        refine wo_n rfl (nv_move rfl rfl) rfl rfl ?_
        refine wo_n rfl (nv_ia rfl rfl rfl (ia_sl (by first | assumption | omega))) rfl rfl ?_
        refine wo_m rfl (mv_load rfl rfl (by assumption)) rfl rfl ?_
        refine wo_n rfl (nv_sadd (s := txt [32]) rfl (show _ = some (vs (txt [32])) by kernel_rfl) rfl (by first | assumption | (simp only [ByteArray.size_append, txt_size, List.length]; omega))) rfl rfl ?_
        refine wo_n rfl (nv_sadd (u := txt [32]) rfl rfl (show _ = some (vs (txt [32])) by kernel_rfl) (by first | assumption | (simp only [ByteArray.size_append, txt_size, List.length]; omega))) rfl rfl ?_
        refine wo_n rfl (nv_move rfl rfl) rfl rfl ?_
        refine wo_n rfl (nv_sadd (s := txt [32]) rfl (show _ = some (vs (txt [32])) by kernel_rfl) rfl (by first | assumption | (simp only [ByteArray.size_append, txt_size, List.length]; omega))) rfl rfl ?_
        refine wo_n rfl (nv_sadd (u := txt [32]) rfl rfl (show _ = some (vs (txt [32])) by kernel_rfl) (by first | assumption | (simp only [ByteArray.size_append, txt_size, List.length]; omega))) rfl rfl ?_
        refine wo_call rfl rfl (by kernel_rfl) (hc) rfl rfl ?_
        refine wo_n rfl (nv_move rfl rfl) rfl rfl ?_
        refine wo_n rfl (nv_move rfl rfl) rfl rfl ?_
        refine wo_n rfl (nv_move rfl rfl) rfl rfl ?_
        refine wo_call rfl rfl (by kernel_rfl) (hi) rfl rfl ?_
        refine wo_n rfl (nv_pickT rfl rfl rfl) rfl rfl ?_
        refine wo_nil ?_
        refine thenW_n ?_
        refine wc_true rfl ?_
        refine wc_seq ?_
        refine wc_region ?_
        refine wo_n rfl (nv_move rfl rfl) rfl rfl ?_
        refine wo_n rfl (nv_assign rfl rfl) rfl rfl ?_
        refine wo_nil ?_
        refine thenW_n ?_
        refine wc_ret ?_
        refine blockW_r ?_
        refine thenW_r ?_
        refine blockW_r ?_
        refine thenW_r ?_
        refine endW_ret rfl rfl ?_
        exact ⟨by rw [hpr], .alloc h (f2.trans fl (fun _ _ h => h)) (.refl r3)⟩
  · have : j = 6 := by omega
    subst this
    have hpr : primI l P = -1 := by unfold primI; rw [prim_none hl hn]; rfl
    refine wc_seq ?_
    refine wc_region ?_
    refine wo_n rfl (nv_lssF rfl rfl rfl (by first | assumption | decide | omega)) rfl rfl ?_
    refine wo_nil ?_
    refine thenW_n ?_
    refine wc_seq ?_
    refine wc_false rfl ?_
    refine wc_exit ?_
    refine thenW_x ?_
    refine blockW_x ?_
    refine thenW_n ?_
    refine wc_seq ?_
    refine wc_region ?_
    refine wo_n rfl (nv_assign rfl rfl) rfl rfl ?_
    refine wo_nil ?_
    refine thenW_n ?_
    refine wc_ret ?_
    refine endW_ret rfl rfl ?_
    exact ⟨by rw [hpr], .alloc h f2 (.refl r2)⟩
end
end Go.Proofs.YtoedpbjeangdhaaDoor.Sy

namespace Go.Proofs.YtoedpbjeangdhaaDoor.Sy
open Go Go.Ev Go.Ev.Pm
set_option linter.unusedVariables false
set_option linter.unusedSimpArgs false
set_option linter.unusedSectionVars false
section
variable {m m' : Mem} {E : Int} {pb : Nat} {oN oO : Nat → Prop} {P P' : PS}
theorem setDeep (h : Rep m E pb oN oO P) {tv ov nv ev : V} (hp : Parts m E pb oN oO P tv ov nv ev) {d : Int} (d0 : 0 ≤ d) (d1 : d ≤ 40) {m1 : Mem} (o1 : Blok m1 pb 46 [tv, .int .i64 E, ov, nv, ev, .int .i64 d]) (f1 : Fr (fun q => q = pb) m m1) : Post m E pb oN oO m1 { P with deep := d } := by
  obtain ⟨t1, t2, t3, t4⟩ := hp.move h.dN h.dO f1 (fun _ _ h => h)
  exact ⟨oN, oO, ⟨⟨_, _, _, _, ⟨o1, t1, t2, t3, t4⟩⟩, h.dN, h.dO, h.dd, h.nl, h.ol, d0, d1, f1.nw h.nw, fun x hx => Nat.lt_of_lt_of_le (h.lN x hx) f1.le, fun x hx => Nat.lt_of_lt_of_le (h.lO x hx) f1.le, by rw [f1.gl]; exact h.gl⟩, f1.mono (fun _ _ h => .inl h), fun _ _ h => h⟩
theorem Wx.to {el g : Nat} {cs : List V} {m1 m2 : Mem} {P1 P2 : PS} {aN aO : Nat → Prop} (w : Wx m E pb oN oO el g cs m1 P1) (hn : ¬ own pb aN aO g) (s : Sub m (own pb oN oO) (own pb aN aO)) (q : Post m1 E pb aN aO m2 P2) : Wx m E pb oN oO el g cs m2 P2 := by
  obtain ⟨c, d, r2, f2, s2⟩ := q
  exact ⟨w.b.fr f2 hn, ⟨c, d, r2, fun k => hn (s2 g w.b.lt k), fun y hy k => s y hy (s2 y (Nat.lt_of_lt_of_le hy w.f.le) k)⟩, w.f.trans f2 (fun q hq k => s q hq k), w.hg⟩
theorem Rep.first (h : Rep m E pb oN oO P) {t : Tk} {r : List Tk} (hT : P.toks = t :: r) : ∃ b off n c ov nv ev, Parts m E pb oN oO P (.sl b off n c 4) ov nv ev ∧ 1 ≤ n ∧ n ≤ c := by
  obtain ⟨tv, ov, nv, ev, hp⟩ := h.ex
  have ht := hp.toks
  rw [hT] at ht
  cases ht with
  | sl b off c n _ hn hts hc ho hb he => rw [List.length_cons] at hn; exact ⟨_, _, _, _, _, _, _, hp, by omega, hc⟩
theorem next_some {t : Tk} (h : next P = some t) : ∃ r, P.toks = t :: r := by
  unfold next at h
  cases hE : P.err with
  | some z => rw [hE] at h; cases h
  | none =>
    rw [hE] at h
    cases hc : P.toks with
    | nil => rw [hc] at h; cases h
    | cons a r => rw [hc] at h; cases h; exact ⟨r, rfl⟩
variable {xb : XB} {ext : CallF} (hX : XH ext)
include hX
theorem take_true (h : Rep m E pb oN oO P) (s : ByteArray) (hs : is P s = true) : ∃ m', Ev Tryd.prog xb ext 28 [.ptr pb 0, vs s] m (.bool true) m' ∧ Post m E pb oN oO m' (drop1 P) := by
  have := take_spec (xb := xb) hX.no h s
  unfold take at this
  rw [hs] at this
  exact this
theorem take_false (h : Rep m E pb oN oO P) (s : ByteArray) (hs : is P s = false) : ∃ m', Ev Tryd.prog xb ext 28 [.ptr pb 0, vs s] m (.bool false) m' ∧ Post m E pb oN oO m' P := by
  have := take_spec (xb := xb) hX.no h s
  unfold take at this
  rw [hs] at this
  exact this
theorem starts_spec (h : Rep m E pb oN oO P) : Ev Tryd.prog xb ext 58 [.ptr pb 0] m (.bool (starts P)) m := by
  obtain ⟨v, hv, hN⟩ := next_spec (xb := xb) hX.no h
  have i1 := is_spec (xb := xb) hX.no h ktrue
  have i2 := is_spec (xb := xb) hX.no h kfalse
  have i3 := is_spec (xb := xb) hX.no h kopen
  have i4 := is_spec (xb := xb) hX.no h khandle
  refine ev_val ?_
  unfold starts
  cases hT : next P with
  | none =>
    rw [hT] at hN
    cases hN
    refine ev_of (fun m => hX.no _ _ m (by decide)) Tryd.func58 rfl rfl ?_
    refine wc_seq ?_
    refine wc_region ?_
    refine wo_n rfl (nv_assign rfl rfl) rfl rfl ?_
    refine wo_nil ?_
    refine thenW_n ?_
    refine wc_seq ?_
    refine wc_region ?_
    refine wo_n rfl (nv_move rfl rfl) rfl rfl ?_
    refine wo_call rfl rfl (by kernel_rfl) (hv) rfl rfl ?_
    refine wo_n rfl (nv_assign rfl rfl) rfl rfl ?_
    refine wo_nil ?_
    refine thenW_n ?_
    refine wc_seq ?_
    refine wc_block ?_
    refine wc_seq ?_
    refine wc_region ?_
    refine wo_n rfl (nv_move rfl rfl) rfl rfl ?_
    refine wo_n rfl (nv_eqlQ rfl rfl rfl) rfl rfl ?_
    refine wo_n rfl (nv_assign rfl rfl) rfl rfl ?_
    refine wo_nil ?_
    refine thenW_n ?_
    refine wc_true rfl ?_
    refine wc_seq ?_
    refine wc_region ?_
    refine wo_n rfl (nv_assign rfl rfl) rfl rfl ?_
    refine wo_nil ?_
    refine thenW_n ?_
    refine wc_ret ?_
    refine blockW_r ?_
    refine thenW_r ?_
    refine endW_ret rfl rfl ?_
    exact ⟨rfl, rfl⟩
  | some t =>
    rw [hT] at hN
    obtain ⟨b, o, rfl, hA, hno, hbl⟩ := hN
    have hk := hA.k
    dsimp only
    by_cases h0 : t.kind = 0
    · refine ev_of (fun m => hX.no _ _ m (by decide)) Tryd.func58 rfl rfl ?_
      refine wc_seq ?_
      refine wc_region ?_
      refine wo_n rfl (nv_assign rfl rfl) rfl rfl ?_
      refine wo_nil ?_
      refine thenW_n ?_
      refine wc_seq ?_
      refine wc_region ?_
      refine wo_n rfl (nv_move rfl rfl) rfl rfl ?_
      refine wo_call rfl rfl (by kernel_rfl) (hv) rfl rfl ?_
      refine wo_n rfl (nv_assign rfl rfl) rfl rfl ?_
      refine wo_nil ?_
      refine thenW_n ?_
      refine wc_seq ?_
      refine wc_block ?_
      refine wc_seq ?_
      refine wc_region ?_
      refine wo_n rfl (nv_move rfl rfl) rfl rfl ?_
      refine wo_n rfl (nv_eqlP rfl rfl rfl) rfl rfl ?_
      refine wo_n rfl (nv_assign rfl rfl) rfl rfl ?_
      refine wo_nil ?_
      refine thenW_n ?_
      refine wc_false rfl ?_
      refine wc_seq ?_
      refine wc_seq ?_
      refine wc_region ?_
      refine wo_n rfl (nv_move rfl rfl) rfl rfl ?_
      refine wo_n rfl (nv_nil rfl rfl rfl) rfl rfl ?_
      refine wo_n rfl (nv_fa rfl rfl) rfl rfl ?_
      refine wo_m rfl (mv_load rfl rfl (by assumption)) rfl rfl ?_
      refine wo_n rfl (nv_eqlT rfl rfl rfl (by first | assumption | decide | omega)) rfl rfl ?_
      refine wo_n rfl (nv_assign rfl rfl) rfl rfl ?_
      refine wo_nil ?_
      refine thenW_n ?_
      refine wc_true rfl ?_
      refine wc_skip ?_
      refine thenW_n ?_
      refine wc_true rfl ?_
      refine wc_seq ?_
      refine wc_region ?_
      refine wo_n rfl (nv_assign rfl rfl) rfl rfl ?_
      refine wo_nil ?_
      refine thenW_n ?_
      refine wc_ret ?_
      refine blockW_r ?_
      refine thenW_r ?_
      refine endW_ret rfl rfl ?_
      exact ⟨rfl, by simp [h0]⟩
    · by_cases h1 : t.kind = 1
      · refine ev_of (fun m => hX.no _ _ m (by decide)) Tryd.func58 rfl rfl ?_
        refine wc_seq ?_
        refine wc_region ?_
        refine wo_n rfl (nv_assign rfl rfl) rfl rfl ?_
        refine wo_nil ?_
        refine thenW_n ?_
        refine wc_seq ?_
        refine wc_region ?_
        refine wo_n rfl (nv_move rfl rfl) rfl rfl ?_
        refine wo_call rfl rfl (by kernel_rfl) (hv) rfl rfl ?_
        refine wo_n rfl (nv_assign rfl rfl) rfl rfl ?_
        refine wo_nil ?_
        refine thenW_n ?_
        refine wc_seq ?_
        refine wc_block ?_
        refine wc_seq ?_
        refine wc_region ?_
        refine wo_n rfl (nv_move rfl rfl) rfl rfl ?_
        refine wo_n rfl (nv_eqlP rfl rfl rfl) rfl rfl ?_
        refine wo_n rfl (nv_assign rfl rfl) rfl rfl ?_
        refine wo_nil ?_
        refine thenW_n ?_
        refine wc_false rfl ?_
        refine wc_seq ?_
        refine wc_seq ?_
        refine wc_region ?_
        refine wo_n rfl (nv_move rfl rfl) rfl rfl ?_
        refine wo_n rfl (nv_nil rfl rfl rfl) rfl rfl ?_
        refine wo_n rfl (nv_fa rfl rfl) rfl rfl ?_
        refine wo_m rfl (mv_load rfl rfl (by assumption)) rfl rfl ?_
        refine wo_n rfl (nv_eqlF rfl rfl rfl (by first | assumption | decide | omega)) rfl rfl ?_
        refine wo_n rfl (nv_assign rfl rfl) rfl rfl ?_
        refine wo_nil ?_
        refine thenW_n ?_
        refine wc_false rfl ?_
        refine wc_region ?_
        refine wo_n rfl (nv_move rfl rfl) rfl rfl ?_
        refine wo_n rfl (nv_nil rfl rfl rfl) rfl rfl ?_
        refine wo_n rfl (nv_fa rfl rfl) rfl rfl ?_
        refine wo_m rfl (mv_load rfl rfl (by assumption)) rfl rfl ?_
        refine wo_n rfl (nv_eqlT rfl rfl rfl (by first | assumption | decide | omega)) rfl rfl ?_
        refine wo_n rfl (nv_assign rfl rfl) rfl rfl ?_
        refine wo_nil ?_
        refine thenW_n ?_
        refine wc_true rfl ?_
        refine wc_seq ?_
        refine wc_region ?_
        refine wo_n rfl (nv_assign rfl rfl) rfl rfl ?_
        refine wo_nil ?_
        refine thenW_n ?_
        refine wc_ret ?_
        refine blockW_r ?_
        refine thenW_r ?_
        refine endW_ret rfl rfl ?_
        exact ⟨rfl, by simp [h1]⟩
      · cases hs1 : is P ktrue with
        | true =>
          rw [hs1] at i1
          refine ev_of (fun m => hX.no _ _ m (by decide)) Tryd.func58 rfl rfl ?_
          refine wc_seq ?_
          refine wc_region ?_
          refine wo_n rfl (nv_assign rfl rfl) rfl rfl ?_
          refine wo_nil ?_
          refine thenW_n ?_
          refine wc_seq ?_
          refine wc_region ?_
          refine wo_n rfl (nv_move rfl rfl) rfl rfl ?_
          refine wo_call rfl rfl (by kernel_rfl) (hv) rfl rfl ?_
          refine wo_n rfl (nv_assign rfl rfl) rfl rfl ?_
          refine wo_nil ?_
          refine thenW_n ?_
          refine wc_seq ?_
          refine wc_block ?_
          refine wc_seq ?_
          refine wc_region ?_
          refine wo_n rfl (nv_move rfl rfl) rfl rfl ?_
          refine wo_n rfl (nv_eqlP rfl rfl rfl) rfl rfl ?_
          refine wo_n rfl (nv_assign rfl rfl) rfl rfl ?_
          refine wo_nil ?_
          refine thenW_n ?_
          refine wc_false rfl ?_
          refine wc_seq ?_
          refine wc_seq ?_
          refine wc_region ?_
          refine wo_n rfl (nv_move rfl rfl) rfl rfl ?_
          refine wo_n rfl (nv_nil rfl rfl rfl) rfl rfl ?_
          refine wo_n rfl (nv_fa rfl rfl) rfl rfl ?_
          refine wo_m rfl (mv_load rfl rfl (by assumption)) rfl rfl ?_
          refine wo_n rfl (nv_eqlF rfl rfl rfl (by first | assumption | decide | omega)) rfl rfl ?_
          refine wo_n rfl (nv_assign rfl rfl) rfl rfl ?_
          refine wo_nil ?_
          refine thenW_n ?_
          refine wc_false rfl ?_
          refine wc_region ?_
          refine wo_n rfl (nv_move rfl rfl) rfl rfl ?_
          refine wo_n rfl (nv_nil rfl rfl rfl) rfl rfl ?_
          refine wo_n rfl (nv_fa rfl rfl) rfl rfl ?_
          refine wo_m rfl (mv_load rfl rfl (by assumption)) rfl rfl ?_
          refine wo_n rfl (nv_eqlF rfl rfl rfl (by first | assumption | decide | omega)) rfl rfl ?_
          refine wo_n rfl (nv_assign rfl rfl) rfl rfl ?_
          refine wo_nil ?_
          refine thenW_n ?_
          refine wc_false rfl ?_
          refine wc_skip ?_
          refine blockW_n ?_
          refine thenW_n ?_
          refine wc_seq ?_
          refine wc_region ?_
          refine wo_n rfl (nv_move rfl rfl) rfl rfl ?_
          refine wo_call rfl rfl (by kernel_rfl) (i1) rfl rfl ?_
          refine wo_n rfl (nv_move rfl rfl) rfl rfl ?_
          refine wo_off rfl rfl rfl ?_
          refine wo_off rfl rfl rfl ?_
          refine wo_n rfl (nv_pickT rfl rfl rfl) rfl rfl ?_
          refine wo_n rfl (nv_move rfl rfl) rfl rfl ?_
          refine wo_off rfl rfl rfl ?_
          refine wo_off rfl rfl rfl ?_
          refine wo_n rfl (nv_pickT rfl rfl rfl) rfl rfl ?_
          refine wo_n rfl (nv_move rfl rfl) rfl rfl ?_
          refine wo_off rfl rfl rfl ?_
          refine wo_off rfl rfl rfl ?_
          refine wo_n rfl (nv_pickT rfl rfl rfl) rfl rfl ?_
          refine wo_n rfl (nv_assign rfl rfl) rfl rfl ?_
          refine wo_nil ?_
          refine thenW_n ?_
          refine wc_ret ?_
          refine endW_ret rfl rfl ?_
          exact ⟨rfl, by simp⟩
        | false =>
          rw [hs1] at i1
          cases hs2 : is P kfalse with
          | true =>
            rw [hs2] at i2
            refine ev_of (fun m => hX.no _ _ m (by decide)) Tryd.func58 rfl rfl ?_
            refine wc_seq ?_
            refine wc_region ?_
            refine wo_n rfl (nv_assign rfl rfl) rfl rfl ?_
            refine wo_nil ?_
            refine thenW_n ?_
            refine wc_seq ?_
            refine wc_region ?_
            refine wo_n rfl (nv_move rfl rfl) rfl rfl ?_
            refine wo_call rfl rfl (by kernel_rfl) (hv) rfl rfl ?_
            refine wo_n rfl (nv_assign rfl rfl) rfl rfl ?_
            refine wo_nil ?_
            refine thenW_n ?_
            refine wc_seq ?_
            refine wc_block ?_
            refine wc_seq ?_
            refine wc_region ?_
            refine wo_n rfl (nv_move rfl rfl) rfl rfl ?_
            refine wo_n rfl (nv_eqlP rfl rfl rfl) rfl rfl ?_
            refine wo_n rfl (nv_assign rfl rfl) rfl rfl ?_
            refine wo_nil ?_
            refine thenW_n ?_
            refine wc_false rfl ?_
            refine wc_seq ?_
            refine wc_seq ?_
            refine wc_region ?_
            refine wo_n rfl (nv_move rfl rfl) rfl rfl ?_
            refine wo_n rfl (nv_nil rfl rfl rfl) rfl rfl ?_
            refine wo_n rfl (nv_fa rfl rfl) rfl rfl ?_
            refine wo_m rfl (mv_load rfl rfl (by assumption)) rfl rfl ?_
            refine wo_n rfl (nv_eqlF rfl rfl rfl (by first | assumption | decide | omega)) rfl rfl ?_
            refine wo_n rfl (nv_assign rfl rfl) rfl rfl ?_
            refine wo_nil ?_
            refine thenW_n ?_
            refine wc_false rfl ?_
            refine wc_region ?_
            refine wo_n rfl (nv_move rfl rfl) rfl rfl ?_
            refine wo_n rfl (nv_nil rfl rfl rfl) rfl rfl ?_
            refine wo_n rfl (nv_fa rfl rfl) rfl rfl ?_
            refine wo_m rfl (mv_load rfl rfl (by assumption)) rfl rfl ?_
            refine wo_n rfl (nv_eqlF rfl rfl rfl (by first | assumption | decide | omega)) rfl rfl ?_
            refine wo_n rfl (nv_assign rfl rfl) rfl rfl ?_
            refine wo_nil ?_
            refine thenW_n ?_
            refine wc_false rfl ?_
            refine wc_skip ?_
            refine blockW_n ?_
            refine thenW_n ?_
            refine wc_seq ?_
            refine wc_region ?_
            refine wo_n rfl (nv_move rfl rfl) rfl rfl ?_
            refine wo_call rfl rfl (by kernel_rfl) (i1) rfl rfl ?_
            refine wo_n rfl (nv_move rfl rfl) rfl rfl ?_
            refine wo_n rfl (nv_move rfl rfl) rfl rfl ?_
            refine wo_call rfl rfl (by kernel_rfl) (i2) rfl rfl ?_
            refine wo_n rfl (nv_pickF rfl rfl rfl) rfl rfl ?_
            refine wo_n rfl (nv_move rfl rfl) rfl rfl ?_
            refine wo_off rfl rfl rfl ?_
            refine wo_off rfl rfl rfl ?_
            refine wo_n rfl (nv_pickT rfl rfl rfl) rfl rfl ?_
            refine wo_n rfl (nv_move rfl rfl) rfl rfl ?_
            refine wo_off rfl rfl rfl ?_
            refine wo_off rfl rfl rfl ?_
            refine wo_n rfl (nv_pickT rfl rfl rfl) rfl rfl ?_
            refine wo_n rfl (nv_assign rfl rfl) rfl rfl ?_
            refine wo_nil ?_
            refine thenW_n ?_
            refine wc_ret ?_
            refine endW_ret rfl rfl ?_
            exact ⟨rfl, by simp⟩
          | false =>
            rw [hs2] at i2
            cases hs3 : is P kopen with
            | true =>
              rw [hs3] at i3
              refine ev_of (fun m => hX.no _ _ m (by decide)) Tryd.func58 rfl rfl ?_
              refine wc_seq ?_
              refine wc_region ?_
              refine wo_n rfl (nv_assign rfl rfl) rfl rfl ?_
              refine wo_nil ?_
              refine thenW_n ?_
              refine wc_seq ?_
              refine wc_region ?_
              refine wo_n rfl (nv_move rfl rfl) rfl rfl ?_
              refine wo_call rfl rfl (by kernel_rfl) (hv) rfl rfl ?_
              refine wo_n rfl (nv_assign rfl rfl) rfl rfl ?_
              refine wo_nil ?_
              refine thenW_n ?_
              refine wc_seq ?_
              refine wc_block ?_
              refine wc_seq ?_
              refine wc_region ?_
              refine wo_n rfl (nv_move rfl rfl) rfl rfl ?_
              refine wo_n rfl (nv_eqlP rfl rfl rfl) rfl rfl ?_
              refine wo_n rfl (nv_assign rfl rfl) rfl rfl ?_
              refine wo_nil ?_
              refine thenW_n ?_
              refine wc_false rfl ?_
              refine wc_seq ?_
              refine wc_seq ?_
              refine wc_region ?_
              refine wo_n rfl (nv_move rfl rfl) rfl rfl ?_
              refine wo_n rfl (nv_nil rfl rfl rfl) rfl rfl ?_
              refine wo_n rfl (nv_fa rfl rfl) rfl rfl ?_
              refine wo_m rfl (mv_load rfl rfl (by assumption)) rfl rfl ?_
              refine wo_n rfl (nv_eqlF rfl rfl rfl (by first | assumption | decide | omega)) rfl rfl ?_
              refine wo_n rfl (nv_assign rfl rfl) rfl rfl ?_
              refine wo_nil ?_
              refine thenW_n ?_
              refine wc_false rfl ?_
              refine wc_region ?_
              refine wo_n rfl (nv_move rfl rfl) rfl rfl ?_
              refine wo_n rfl (nv_nil rfl rfl rfl) rfl rfl ?_
              refine wo_n rfl (nv_fa rfl rfl) rfl rfl ?_
              refine wo_m rfl (mv_load rfl rfl (by assumption)) rfl rfl ?_
              refine wo_n rfl (nv_eqlF rfl rfl rfl (by first | assumption | decide | omega)) rfl rfl ?_
              refine wo_n rfl (nv_assign rfl rfl) rfl rfl ?_
              refine wo_nil ?_
              refine thenW_n ?_
              refine wc_false rfl ?_
              refine wc_skip ?_
              refine blockW_n ?_
              refine thenW_n ?_
              refine wc_seq ?_
              refine wc_region ?_
              refine wo_n rfl (nv_move rfl rfl) rfl rfl ?_
              refine wo_call rfl rfl (by kernel_rfl) (i1) rfl rfl ?_
              refine wo_n rfl (nv_move rfl rfl) rfl rfl ?_
              refine wo_n rfl (nv_move rfl rfl) rfl rfl ?_
              refine wo_call rfl rfl (by kernel_rfl) (i2) rfl rfl ?_
              refine wo_n rfl (nv_pickF rfl rfl rfl) rfl rfl ?_
              refine wo_n rfl (nv_move rfl rfl) rfl rfl ?_
              refine wo_n rfl (nv_move rfl rfl) rfl rfl ?_
              refine wo_call rfl rfl (by kernel_rfl) (i3) rfl rfl ?_
              refine wo_n rfl (nv_pickF rfl rfl rfl) rfl rfl ?_
              refine wo_n rfl (nv_move rfl rfl) rfl rfl ?_
              refine wo_off rfl rfl rfl ?_
              refine wo_off rfl rfl rfl ?_
              refine wo_n rfl (nv_pickT rfl rfl rfl) rfl rfl ?_
              refine wo_n rfl (nv_assign rfl rfl) rfl rfl ?_
              refine wo_nil ?_
              refine thenW_n ?_
              refine wc_ret ?_
              refine endW_ret rfl rfl ?_
              exact ⟨rfl, by simp⟩
            | false =>
              rw [hs3] at i3
              refine ev_of (fun m => hX.no _ _ m (by decide)) Tryd.func58 rfl rfl ?_
              refine wc_seq ?_
              refine wc_region ?_
              refine wo_n rfl (nv_assign rfl rfl) rfl rfl ?_
              refine wo_nil ?_
              refine thenW_n ?_
              refine wc_seq ?_
              refine wc_region ?_
              refine wo_n rfl (nv_move rfl rfl) rfl rfl ?_
              refine wo_call rfl rfl (by kernel_rfl) (hv) rfl rfl ?_
              refine wo_n rfl (nv_assign rfl rfl) rfl rfl ?_
              refine wo_nil ?_
              refine thenW_n ?_
              refine wc_seq ?_
              refine wc_block ?_
              refine wc_seq ?_
              refine wc_region ?_
              refine wo_n rfl (nv_move rfl rfl) rfl rfl ?_
              refine wo_n rfl (nv_eqlP rfl rfl rfl) rfl rfl ?_
              refine wo_n rfl (nv_assign rfl rfl) rfl rfl ?_
              refine wo_nil ?_
              refine thenW_n ?_
              refine wc_false rfl ?_
              refine wc_seq ?_
              refine wc_seq ?_
              refine wc_region ?_
              refine wo_n rfl (nv_move rfl rfl) rfl rfl ?_
              refine wo_n rfl (nv_nil rfl rfl rfl) rfl rfl ?_
              refine wo_n rfl (nv_fa rfl rfl) rfl rfl ?_
              refine wo_m rfl (mv_load rfl rfl (by assumption)) rfl rfl ?_
              refine wo_n rfl (nv_eqlF rfl rfl rfl (by first | assumption | decide | omega)) rfl rfl ?_
              refine wo_n rfl (nv_assign rfl rfl) rfl rfl ?_
              refine wo_nil ?_
              refine thenW_n ?_
              refine wc_false rfl ?_
              refine wc_region ?_
              refine wo_n rfl (nv_move rfl rfl) rfl rfl ?_
              refine wo_n rfl (nv_nil rfl rfl rfl) rfl rfl ?_
              refine wo_n rfl (nv_fa rfl rfl) rfl rfl ?_
              refine wo_m rfl (mv_load rfl rfl (by assumption)) rfl rfl ?_
              refine wo_n rfl (nv_eqlF rfl rfl rfl (by first | assumption | decide | omega)) rfl rfl ?_
              refine wo_n rfl (nv_assign rfl rfl) rfl rfl ?_
              refine wo_nil ?_
              refine thenW_n ?_
              refine wc_false rfl ?_
              refine wc_skip ?_
              refine blockW_n ?_
              refine thenW_n ?_
              refine wc_seq ?_
              refine wc_region ?_
              refine wo_n rfl (nv_move rfl rfl) rfl rfl ?_
              refine wo_call rfl rfl (by kernel_rfl) (i1) rfl rfl ?_
              refine wo_n rfl (nv_move rfl rfl) rfl rfl ?_
              refine wo_n rfl (nv_move rfl rfl) rfl rfl ?_
              refine wo_call rfl rfl (by kernel_rfl) (i2) rfl rfl ?_
              refine wo_n rfl (nv_pickF rfl rfl rfl) rfl rfl ?_
              refine wo_n rfl (nv_move rfl rfl) rfl rfl ?_
              refine wo_n rfl (nv_move rfl rfl) rfl rfl ?_
              refine wo_call rfl rfl (by kernel_rfl) (i3) rfl rfl ?_
              refine wo_n rfl (nv_pickF rfl rfl rfl) rfl rfl ?_
              refine wo_n rfl (nv_move rfl rfl) rfl rfl ?_
              refine wo_n rfl (nv_move rfl rfl) rfl rfl ?_
              refine wo_call rfl rfl (by kernel_rfl) (i4) rfl rfl ?_
              refine wo_n rfl (nv_pickF rfl rfl rfl) rfl rfl ?_
              refine wo_n rfl (nv_assign rfl rfl) rfl rfl ?_
              refine wo_nil ?_
              refine thenW_n ?_
              refine wc_ret ?_
              refine endW_ret rfl rfl ?_
              exact ⟨rfl, by simp [h0, h1]⟩
end
structure SpecN (xb : XB) (ext : CallF) (E : Int) (pb : Nat) (n : Nat) : Prop where
  inner : ∀ {m : Mem} {oN oO : Nat → Prop} {P : PS} {v : Int} {Q : PS}, Rep m E pb oN oO P → run E n .inner P = some (v, Q) → ∃ m', Ev Tryd.prog xb ext 13 [.ptr pb 0] m (.int .i64 v) m' ∧ Post m E pb oN oO m' Q
  expr : ∀ {m : Mem} {oN oO : Nat → Prop} {P : PS} {v : Int} {Q : PS}, Rep m E pb oN oO P → run E n .expr P = some (v, Q) → ∃ m', Ev Tryd.prog xb ext 21 [.ptr pb 0] m (.int .i64 v) m' ∧ Post m E pb oN oO m' Q
  level : ∀ {m : Mem} {oN oO : Nat → Prop} {P : PS} {v : Int} {Q : PS} {l : Nat}, l ≤ 3 → Rep m E pb oN oO P → run E n (.level l) P = some (v, Q) → ∃ m', Ev Tryd.prog xb ext 30 [.ptr pb 0, .int .i64 (l : Nat)] m (.int .i64 v) m' ∧ Post m E pb oN oO m' Q
  apply : ∀ {m : Mem} {oN oO : Nat → Prop} {P : PS} {v : Int} {Q : PS}, Rep m E pb oN oO P → run E n .apply P = some (v, Q) → ∃ m', Ev Tryd.prog xb ext 45 [.ptr pb 0] m (.int .i64 v) m' ∧ Post m E pb oN oO m' Q
  atom : ∀ {m : Mem} {oN oO : Nat → Prop} {P : PS} {v : Int} {Q : PS}, Rep m E pb oN oO P → run E n .atom P = some (v, Q) → ∃ m', Ev Tryd.prog xb ext 57 [.ptr pb 0] m (.int .i64 v) m' ∧ Post m E pb oN oO m' Q
section
variable {m m' : Mem} {E : Int} {pb : Nat} {oN oO : Nat → Prop} {P P' : PS} {xb : XB} {ext : CallF} (hX : XH ext) {n : Nat} (hS : SpecN xb ext E pb n) {v : Int} {Q : PS}
include hX hS
theorem then_spec (h : Rep m E pb oN oO P) (s : ByteArray) (hr : run E n .inner (must E s P) = some (v, Q)) : ∃ m', Ev Tryd.prog xb ext 29 [.ptr pb 0, vs s] m (.int .i64 v) m' ∧ Post m E pb oN oO m' Q := by
  obtain ⟨m1, h1, A1⟩ := must_spec (xb := xb) hX.no h s
  obtain ⟨m2, h2, A2⟩ := A1.step fun _ _ r => hS.inner r hr
  refine ev_to ?_
  refine ev_of (fun m => hX.no _ _ m (by decide)) Tryd.func29 rfl rfl ?_
  refine wc_seq ?_
  refine wc_region ?_
  refine wo_n rfl (nv_assign rfl rfl) rfl rfl ?_
  refine wo_nil ?_
  refine thenW_n ?_
  refine wc_seq ?_
  refine wc_region ?_
  refine wo_n rfl (nv_move rfl rfl) rfl rfl ?_
  refine wo_n rfl (nv_move rfl rfl) rfl rfl ?_
  refine wo_call rfl rfl (by kernel_rfl) (h1) rfl rfl ?_
  refine wo_nil ?_
  refine thenW_n ?_
  refine wc_seq ?_
  refine wc_region ?_
  refine wo_n rfl (nv_move rfl rfl) rfl rfl ?_
  refine wo_call rfl rfl (by kernel_rfl) (h2) rfl rfl ?_
  refine wo_n rfl (nv_assign rfl rfl) rfl rfl ?_
  refine wo_nil ?_
  refine thenW_n ?_
  refine wc_ret ?_
  refine endW_ret rfl rfl ?_
  exact ⟨rfl, A2⟩
theorem inner_spec (h : Rep m E pb oN oO P) (hr : run E (n + 1) .inner P = some (v, Q)) : ∃ m', Ev Tryd.prog xb ext 13 [.ptr pb 0] m (.int .i64 v) m' ∧ Post m E pb oN oO m' Q := by
  refine ev_to ?_
  simp only [run] at hr
  have hd0 := h.d0
  have hd1 := h.d1
  by_cases hd : P.deep = 40
  · have hpre : pre E P = fail E 401 P := by unfold pre; rw [if_pos hd]
    obtain ⟨z, hz⟩ := fail_err (E := E) 401 P
    rw [hpre, hz] at hr
    cases hr
    obtain ⟨mf, hf, pf⟩ := fail_spec (xb := xb) hX.no h (.no 401)
    obtain ⟨tv, ov, nv, ev, hp⟩ := h.ex
    have c5 := hp.obj.cell (i := 5) rfl
    refine ev_of (fun m => hX.no _ _ m (by decide)) Tryd.func13 rfl rfl ?_
    refine wc_seq ?_
    refine wc_region ?_
    refine wo_n rfl (nv_assign rfl rfl) rfl rfl ?_
    refine wo_nil ?_
    refine thenW_n ?_
    refine wc_seq ?_
    refine wc_seq ?_
    refine wc_region ?_
    refine wo_n rfl (nv_move rfl rfl) rfl rfl ?_
    refine wo_n rfl (nv_nil rfl rfl rfl) rfl rfl ?_
    refine wo_n rfl (nv_fa rfl rfl) rfl rfl ?_
    refine wo_m rfl (mv_load rfl rfl (by assumption)) rfl rfl ?_
    refine wo_n rfl (nv_eqlT rfl rfl rfl (by first | assumption | decide | omega)) rfl rfl ?_
    refine wo_nil ?_
    refine thenW_n ?_
    refine wc_true rfl ?_
    refine wc_region ?_
    refine wo_n rfl (nv_move rfl rfl) rfl rfl ?_
    refine wo_n rfl (nv_mkI rfl rfl) rfl rfl ?_
    refine wo_call rfl rfl (by kernel_rfl) (hf) rfl rfl ?_
    obtain ⟨aN, aO, r1, r2, r3⟩ := pf
    obtain ⟨tv2, ov2, nv2, t2, v2, hp2⟩ := r1.hasErr hz
    have c4 := hp2.obj.cell (i := 4) rfl
    refine wo_nil ?_
    refine thenW_n ?_
    refine wc_seq ?_
    refine wc_seq ?_
    refine wc_region ?_
    refine wo_n rfl (nv_move rfl rfl) rfl rfl ?_
    refine wo_n rfl (nv_nil rfl rfl rfl) rfl rfl ?_
    refine wo_n rfl (nv_fa rfl rfl) rfl rfl ?_
    refine wo_m rfl (mv_load rfl rfl (by assumption)) rfl rfl ?_
    refine wo_n rfl (nv_neqI rfl rfl rfl) rfl rfl ?_
    refine wo_nil ?_
    refine thenW_n ?_
    refine wc_true rfl ?_
    refine wc_seq ?_
    refine wc_region ?_
    refine wo_n rfl (nv_assign rfl rfl) rfl rfl ?_
    refine wo_nil ?_
    refine thenW_n ?_
    refine wc_ret ?_
    refine thenW_r ?_
    refine endW_ret rfl rfl ?_
    exact ⟨rfl, ⟨aN, aO, r1, r2, r3⟩⟩
  · have hpre : pre E P = P := by unfold pre; rw [if_neg hd]
    rw [hpre] at hr
    cases hE : P.err with
    | some z =>
      rw [hE] at hr
      cases hr
      obtain ⟨tv2, ov2, nv2, t2, v2, hp2⟩ := h.hasErr hE
      have c4 := hp2.obj.cell (i := 4) rfl
      have c5 := hp2.obj.cell (i := 5) rfl
      refine ev_of (fun m => hX.no _ _ m (by decide)) Tryd.func13 rfl rfl ?_
      refine wc_seq ?_
      refine wc_region ?_
      refine wo_n rfl (nv_assign rfl rfl) rfl rfl ?_
      refine wo_nil ?_
      refine thenW_n ?_
      refine wc_seq ?_
      refine wc_seq ?_
      refine wc_region ?_
      refine wo_n rfl (nv_move rfl rfl) rfl rfl ?_
      refine wo_n rfl (nv_nil rfl rfl rfl) rfl rfl ?_
      refine wo_n rfl (nv_fa rfl rfl) rfl rfl ?_
      refine wo_m rfl (mv_load rfl rfl (by assumption)) rfl rfl ?_
      refine wo_n rfl (nv_eqlF rfl rfl rfl (by first | assumption | decide | omega)) rfl rfl ?_
      refine wo_nil ?_
      refine thenW_n ?_
      refine wc_false rfl ?_
      refine wc_skip ?_
      refine thenW_n ?_
      refine wc_seq ?_
      refine wc_seq ?_
      refine wc_region ?_
      refine wo_n rfl (nv_move rfl rfl) rfl rfl ?_
      refine wo_n rfl (nv_nil rfl rfl rfl) rfl rfl ?_
      refine wo_n rfl (nv_fa rfl rfl) rfl rfl ?_
      refine wo_m rfl (mv_load rfl rfl (by assumption)) rfl rfl ?_
      refine wo_n rfl (nv_neqI rfl rfl rfl) rfl rfl ?_
      refine wo_nil ?_
      refine thenW_n ?_
      refine wc_true rfl ?_
      refine wc_seq ?_
      refine wc_region ?_
      refine wo_n rfl (nv_assign rfl rfl) rfl rfl ?_
      refine wo_nil ?_
      refine thenW_n ?_
      refine wc_ret ?_
      refine thenW_r ?_
      refine endW_ret rfl rfl ?_
      exact ⟨rfl, .refl h⟩
    | none =>
      rw [hE] at hr
      obtain ⟨a, A, h1, hr⟩ := bindR_some hr
      cases hr
      have h1' : run E n .expr { P with deep := P.deep + 1 } = some (v, A) := by rw [← h1, hE]
      obtain ⟨tv, ov, nv, hp⟩ := h.noErr hE
      have c4 := hp.obj.cell (i := 4) rfl
      have c5 := hp.obj.cell (i := 5) rfl
      have q0 := hp.obj
      have hde : A.deep = P.deep + 1 := (run_le _ _ _ _ _ h1).1
      refine ev_of (fun m => hX.no _ _ m (by decide)) Tryd.func13 rfl rfl ?_
      refine wc_seq ?_
      refine wc_region ?_
      refine wo_n rfl (nv_assign rfl rfl) rfl rfl ?_
      refine wo_nil ?_
      refine thenW_n ?_
      refine wc_seq ?_
      refine wc_seq ?_
      refine wc_region ?_
      refine wo_n rfl (nv_move rfl rfl) rfl rfl ?_
      refine wo_n rfl (nv_nil rfl rfl rfl) rfl rfl ?_
      refine wo_n rfl (nv_fa rfl rfl) rfl rfl ?_
      refine wo_m rfl (mv_load rfl rfl (by assumption)) rfl rfl ?_
      refine wo_n rfl (nv_eqlF rfl rfl rfl (by first | assumption | decide | omega)) rfl rfl ?_
      refine wo_nil ?_
      refine thenW_n ?_
      refine wc_false rfl ?_
      refine wc_skip ?_
      refine thenW_n ?_
      refine wc_seq ?_
      refine wc_seq ?_
      refine wc_region ?_
      refine wo_n rfl (nv_move rfl rfl) rfl rfl ?_
      refine wo_n rfl (nv_nil rfl rfl rfl) rfl rfl ?_
      refine wo_n rfl (nv_fa rfl rfl) rfl rfl ?_
      refine wo_m rfl (mv_load rfl rfl (by assumption)) rfl rfl ?_
      refine wo_n rfl (nv_neqN rfl rfl rfl rfl) rfl rfl ?_
      refine wo_nil ?_
      refine thenW_n ?_
      refine wc_false rfl ?_
      refine wc_skip ?_
      refine thenW_n ?_
      refine wc_seq ?_
      refine wc_region ?_
      refine wo_n rfl (nv_move rfl rfl) rfl rfl ?_
      refine wo_n rfl (nv_nil rfl rfl rfl) rfl rfl ?_
      refine wo_n rfl (nv_fa rfl rfl) rfl rfl ?_
      refine wo_m rfl (mv_load rfl rfl (by assumption)) rfl rfl ?_
      refine wo_n rfl (nv_add rfl rfl rfl rfl (by first | decide | omega) (by first | decide | omega)) rfl rfl ?_
      refine wo_n rfl (nv_nil rfl rfl rfl) rfl rfl ?_
      refine wo_n rfl (nv_fa rfl rfl) rfl rfl ?_
      refine wo_store rfl rfl rfl rfl (by assumption) rfl rfl (Nat.le_of_ble_eq_true rfl) rfl ?_
      intro m1 o1 f1 n1
      have A1 := setDeep h hp (d := P.deep + 1) (by omega) (by omega) o1 f1
      obtain ⟨m2', h2, A2⟩ := A1.step fun _ _ r => hS.expr r h1'
      refine wo_nil ?_
      refine thenW_n ?_
      refine wc_seq ?_
      refine wc_region ?_
      refine wo_n rfl (nv_move rfl rfl) rfl rfl ?_
      refine wo_call rfl rfl (by kernel_rfl) (h2) rfl rfl ?_
      obtain ⟨aN, aO, r1, r2, r3⟩ := A2
      obtain ⟨tv2, ov2, nv2, ev2, hp2⟩ := r1.ex
      have c6 := hp2.obj.cell (i := 5) rfl
      have q1 := hp2.obj
      refine wo_n rfl (nv_assign rfl rfl) rfl rfl ?_
      refine wo_nil ?_
      refine thenW_n ?_
      refine wc_seq ?_
      refine wc_region ?_
      refine wo_n rfl (nv_move rfl rfl) rfl rfl ?_
      refine wo_n rfl (nv_nil rfl rfl rfl) rfl rfl ?_
      refine wo_n rfl (nv_fa rfl rfl) rfl rfl ?_
      refine wo_m rfl (mv_load rfl rfl (by assumption)) rfl rfl ?_
      refine wo_n rfl (nv_sub rfl rfl rfl rfl (by first | decide | omega) (by first | decide | omega)) rfl rfl ?_
      refine wo_n rfl (nv_nil rfl rfl rfl) rfl rfl ?_
      refine wo_n rfl (nv_fa rfl rfl) rfl rfl ?_
      refine wo_store rfl rfl rfl rfl (by assumption) rfl rfl (Nat.le_of_ble_eq_true rfl) rfl ?_
      intro m2 o2 f2 n2
      skip
      refine wo_nil ?_
      refine thenW_n ?_
      refine wc_seq ?_
      refine wc_region ?_
      refine wo_n rfl (nv_move rfl rfl) rfl rfl ?_
      refine wo_n rfl (nv_assign rfl rfl) rfl rfl ?_
      refine wo_nil ?_
      refine thenW_n ?_
      refine wc_ret ?_
      refine endW_ret rfl rfl ?_
      refine ⟨rfl, .after r2 r3 ?_⟩
      exact setDeep r1 hp2 (d := A.deep - 1) (by omega) (by omega) (m1 := m2) o2 f2
end
end Go.Proofs.YtoedpbjeangdhaaDoor.Sy

namespace Go.Proofs.YtoedpbjeangdhaaDoor.Sy
open Go Go.Ev Go.Ev.Pm
set_option linter.unusedVariables false
set_option linter.unusedSimpArgs false
set_option linter.unusedSectionVars false
section
variable {m m' : Mem} {E : Int} {pb : Nat} {oN oO : Nat → Prop} {P P' : PS} {xb : XB} {ext : CallF} (hX : XH ext) {n : Nat} (hS : SpecN xb ext E pb n) {v : Int} {Q : PS}
theorem put_eq {x : Nd} {R : PS} (h : some (put E x R) = some (v, Q)) : v = (put E x R).1 ∧ Q = (put E x R).2 := by rw [Option.some.inj h]; exact ⟨rfl, rfl⟩
abbrev W0 (m : Mem) (E : Int) (pb : Nat) (oN oO : Nat → Prop) (g : Nat) (x : Nd) (m' : Mem) (P' : PS) : Prop := Wx m E pb oN oO 38 g (ndC x) m' P'
include hX hS
set_option maxHeartbeats 2000000 in
theorem expr_fun (h : Rep m E pb oN oO P) (hs : is P kfun = true) {a : Int} {A : PS} (h1 : run E n .inner (must E karrow (name E (drop1 P)).2) = some (a, A)) : ∃ m', Ev Tryd.prog xb ext 21 [.ptr pb 0] m (.int .i64 (put E { k := 3, a := a, x := (name E (drop1 P)).1, at_ := here E P } A).1) m' ∧ Post m E pb oN oO m' (put E { k := 3, a := a, x := (name E (drop1 P)).1, at_ := here E P } A).2 := by
  refine ev_to ?_
  have hh := here_spec (xb := xb) hX.no h
  refine ev_of (fun m => hX.no _ _ m (by decide)) Tryd.func21 rfl rfl ?_
  refine wc_seq ?_
  refine wc_region ?_
  refine wo_n rfl (nv_assign rfl rfl) rfl rfl ?_
  refine wo_nil ?_
  refine thenW_n ?_
  refine wc_seq ?_
  refine wc_region ?_
  refine wo_n rfl (nv_move rfl rfl) rfl rfl ?_
  refine wo_call rfl rfl (by kernel_rfl) (hh) rfl rfl ?_
  refine wo_n rfl (nv_buildS rfl rfl rfl) rfl rfl ?_
  refine wo_alloc rfl rfl rfl rfl ?_
  intro g1 m1 o1 f1 l1
  have w1 := Wx.start (.refl h) o1 f1 l1
  refine wo_store rfl rfl rfl rfl (by assumption) rfl rfl (Nat.le_of_ble_eq_true rfl) rfl ?_
  intro m2 o2 f2 n2
  have w2 : W0 m E pb oN oO g1 { at_ := here E P } m2 P := w1.store o2 f2
  refine wo_nil ?_
  refine thenW_n ?_
  refine wc_seq ?_
  refine wc_block ?_
  refine wc_seq ?_
  refine wc_region ?_
  refine wo_n rfl (nv_move rfl rfl) rfl rfl ?_
  obtain ⟨m3, h3, w3, l3⟩ := w2.call fun _ _ r => take_true (xb := xb) hX r kfun hs
  refine wo_call rfl rfl (by kernel_rfl) (h3) rfl rfl ?_
  refine wo_n rfl (nv_assign rfl rfl) rfl rfl ?_
  refine wo_nil ?_
  refine thenW_n ?_
  refine wc_true rfl ?_
  refine wc_seq ?_
  refine wc_region ?_
  refine wo_n rfl (nv_move rfl rfl) rfl rfl ?_
  obtain ⟨m4, h4, w4, l4⟩ := w3.call fun _ _ r => name_spec (xb := xb) hX.no r
  have b4 := w4.b
  refine wo_call rfl rfl (by kernel_rfl) (h4) rfl rfl ?_
  refine wo_n rfl (nv_fa rfl rfl) rfl rfl ?_
  refine wo_store rfl rfl rfl rfl (by assumption) rfl rfl (Nat.le_of_ble_eq_true rfl) rfl ?_
  intro m3 o3 f3 n3
  have w5 : W0 m E pb oN oO g1 { k := 3, at_ := here E P } m3 _ := w4.store o3 f3
  refine wo_n rfl (nv_fa rfl rfl) rfl rfl ?_
  refine wo_store rfl rfl rfl rfl (by assumption) rfl rfl (Nat.le_of_ble_eq_true rfl) rfl ?_
  intro m4 o4 f4 n4
  have w6 : W0 m E pb oN oO g1 { k := 3, x := (name E (drop1 P)).1, at_ := here E P } m4 _ := w5.store o4 f4
  refine wo_nil ?_
  refine thenW_n ?_
  refine wc_region ?_
  refine wo_n rfl (nv_move rfl rfl) rfl rfl ?_
  obtain ⟨m7, h7, w7, l7⟩ := w6.call fun _ _ r => then_spec (xb := xb) hX hS r karrow h1
  have b7 := w7.b
  refine wo_call rfl rfl (by kernel_rfl) (h7) rfl rfl ?_
  refine wo_n rfl (nv_fa rfl rfl) rfl rfl ?_
  refine wo_store rfl rfl rfl rfl (by assumption) rfl rfl (Nat.le_of_ble_eq_true rfl) rfl ?_
  intro m5 o5 f5 n5
  have w8 : W0 m E pb oN oO g1 { k := 3, a := a, x := (name E (drop1 P)).1, at_ := here E P } m5 _ := w7.store o5 f5
  have x8 := w8.b.rowAll (n := 10) rfl
  refine wo_nil ?_
  refine blockW_n ?_
  refine thenW_n ?_
  refine wc_seq ?_
  refine wc_region ?_
  refine wo_n rfl (nv_move rfl rfl) rfl rfl ?_
  refine wo_m rfl (mv_loadA rfl rfl (by assumption)) rfl rfl ?_
  obtain ⟨m9, h9, w9, l9⟩ := w8.call fun _ _ r => put_spec (xb := xb) hX.no r _
  refine wo_call rfl rfl (by kernel_rfl) (h9) rfl rfl ?_
  refine wo_n rfl (nv_assign rfl rfl) rfl rfl ?_
  refine wo_nil ?_
  refine thenW_n ?_
  refine wc_ret ?_
  refine endW_ret rfl rfl ?_
  exact ⟨rfl, w9.done⟩
set_option maxHeartbeats 2000000 in
theorem expr_let (h : Rep m E pb oN oO P) (hf : is P kfun = false) (hs : is P klet = true) (hr : is (drop1 P) krec = false) {a b : Int} {A B : PS} (h1 : run E n .inner (must E kset (name E (drop1 P)).2) = some (a, A)) (h2 : run E n .inner (must E kin A) = some (b, B)) : ∃ m', Ev Tryd.prog xb ext 21 [.ptr pb 0] m (.int .i64 (put E { k := 5, a := a, b := b, x := (name E (drop1 P)).1, at_ := here E P } B).1) m' ∧ Post m E pb oN oO m' (put E { k := 5, a := a, b := b, x := (name E (drop1 P)).1, at_ := here E P } B).2 := by
  refine ev_to ?_
  have hh := here_spec (xb := xb) hX.no h
  refine ev_of (fun m => hX.no _ _ m (by decide)) Tryd.func21 rfl rfl ?_
  refine wc_seq ?_
  refine wc_region ?_
  refine wo_n rfl (nv_assign rfl rfl) rfl rfl ?_
  refine wo_nil ?_
  refine thenW_n ?_
  refine wc_seq ?_
  refine wc_region ?_
  refine wo_n rfl (nv_move rfl rfl) rfl rfl ?_
  refine wo_call rfl rfl (by kernel_rfl) (hh) rfl rfl ?_
  refine wo_n rfl (nv_buildS rfl rfl rfl) rfl rfl ?_
  refine wo_alloc rfl rfl rfl rfl ?_
  intro g1 m1 o1 f1 l1
  have w1 := Wx.start (.refl h) o1 f1 l1
  refine wo_store rfl rfl rfl rfl (by assumption) rfl rfl (Nat.le_of_ble_eq_true rfl) rfl ?_
  intro m2 o2 f2 n2
  have w2 : W0 m E pb oN oO g1 { at_ := here E P } m2 P := w1.store o2 f2
  refine wo_nil ?_
  refine thenW_n ?_
  refine wc_seq ?_
  refine wc_block ?_
  refine wc_seq ?_
  refine wc_region ?_
  refine wo_n rfl (nv_move rfl rfl) rfl rfl ?_
  obtain ⟨m3, h3, w3, l3⟩ := w2.call fun _ _ r => take_false (xb := xb) hX r kfun hf
  refine wo_call rfl rfl (by kernel_rfl) (h3) rfl rfl ?_
  refine wo_n rfl (nv_assign rfl rfl) rfl rfl ?_
  refine wo_nil ?_
  refine thenW_n ?_
  refine wc_false rfl ?_
  refine wc_seq ?_
  refine wc_region ?_
  refine wo_n rfl (nv_move rfl rfl) rfl rfl ?_
  obtain ⟨m3', h3', w3', l3'⟩ := w3.call fun _ _ r => take_true (xb := xb) hX r klet hs
  have b3 := w3'.b
  refine wo_call rfl rfl (by kernel_rfl) (h3') rfl rfl ?_
  refine wo_n rfl (nv_assign rfl rfl) rfl rfl ?_
  refine wo_nil ?_
  refine thenW_n ?_
  refine wc_true rfl ?_
  refine wc_seq ?_
  refine wc_region ?_
  refine wo_n rfl (nv_fa rfl rfl) rfl rfl ?_
  refine wo_store rfl rfl rfl rfl (by assumption) rfl rfl (Nat.le_of_ble_eq_true rfl) rfl ?_
  intro m3 o3 f3 n3
  have w4 : W0 m E pb oN oO g1 { k := 5, at_ := here E P } m3 _ := w3'.store o3 f3
  refine wo_nil ?_
  refine thenW_n ?_
  refine wc_seq ?_
  refine wc_seq ?_
  refine wc_region ?_
  refine wo_n rfl (nv_move rfl rfl) rfl rfl ?_
  obtain ⟨m5, h5, w5, l5⟩ := w4.call fun _ _ r => take_false (xb := xb) hX r krec hr
  refine wo_call rfl rfl (by kernel_rfl) (h5) rfl rfl ?_
  refine wo_nil ?_
  refine thenW_n ?_
  refine wc_false rfl ?_
  refine wc_skip ?_
  refine thenW_n ?_
  refine wc_seq ?_
  refine wc_region ?_
  refine wo_n rfl (nv_move rfl rfl) rfl rfl ?_
  obtain ⟨m6, h6, w6, l6⟩ := w5.call fun _ _ r => name_spec (xb := xb) hX.no r
  have b6 := w6.b
  refine wo_call rfl rfl (by kernel_rfl) (h6) rfl rfl ?_
  refine wo_n rfl (nv_fa rfl rfl) rfl rfl ?_
  refine wo_store rfl rfl rfl rfl (by assumption) rfl rfl (Nat.le_of_ble_eq_true rfl) rfl ?_
  intro m4 o4 f4 n4
  have w7 : W0 m E pb oN oO g1 { k := 5, x := (name E (drop1 P)).1, at_ := here E P } m4 _ := w6.store o4 f4
  have c7 : m4.cell g1 0 = some (.int .i64 5) := w7.b.cell (i := 0) rfl
  refine wo_nil ?_
  refine thenW_n ?_
  refine wc_seq ?_
  refine wc_seq ?_
  refine wc_region ?_
  refine wo_n rfl (nv_fa rfl rfl) rfl rfl ?_
  refine wo_m rfl (mv_load rfl rfl (by assumption)) rfl rfl ?_
  refine wo_n rfl (nv_eqlF rfl rfl rfl (by first | assumption | decide | omega)) rfl rfl ?_
  refine wo_nil ?_
  refine thenW_n ?_
  refine wc_false rfl ?_
  refine wc_skip ?_
  refine thenW_n ?_
  refine wc_seq ?_
  refine wc_region ?_
  refine wo_n rfl (nv_move rfl rfl) rfl rfl ?_
  obtain ⟨m8, h8, w8, l8⟩ := w7.call fun _ _ r => then_spec (xb := xb) hX hS r kset h1
  have b8 := w8.b
  refine wo_call rfl rfl (by kernel_rfl) (h8) rfl rfl ?_
  refine wo_n rfl (nv_fa rfl rfl) rfl rfl ?_
  refine wo_store rfl rfl rfl rfl (by assumption) rfl rfl (Nat.le_of_ble_eq_true rfl) rfl ?_
  intro m5 o5 f5 n5
  have w9 : W0 m E pb oN oO g1 { k := 5, a := a, x := (name E (drop1 P)).1, at_ := here E P } m5 _ := w8.store o5 f5
  refine wo_nil ?_
  refine thenW_n ?_
  refine wc_region ?_
  refine wo_n rfl (nv_move rfl rfl) rfl rfl ?_
  obtain ⟨m10, h10, w10, l10⟩ := w9.call fun _ _ r => then_spec (xb := xb) hX hS r kin h2
  have b10 := w10.b
  refine wo_call rfl rfl (by kernel_rfl) (h10) rfl rfl ?_
  refine wo_n rfl (nv_fa rfl rfl) rfl rfl ?_
  refine wo_store rfl rfl rfl rfl (by assumption) rfl rfl (Nat.le_of_ble_eq_true rfl) rfl ?_
  intro m6 o6 f6 n6
  have w11 : W0 m E pb oN oO g1 { k := 5, a := a, b := b, x := (name E (drop1 P)).1, at_ := here E P } m6 _ := w10.store o6 f6
  have x11 := w11.b.rowAll (n := 10) rfl
  refine wo_nil ?_
  refine blockW_n ?_
  refine thenW_n ?_
  refine wc_seq ?_
  refine wc_region ?_
  refine wo_n rfl (nv_move rfl rfl) rfl rfl ?_
  refine wo_m rfl (mv_loadA rfl rfl (by assumption)) rfl rfl ?_
  obtain ⟨m12, h12, w12, l12⟩ := w11.call fun _ _ r => put_spec (xb := xb) hX.no r _
  refine wo_call rfl rfl (by kernel_rfl) (h12) rfl rfl ?_
  refine wo_n rfl (nv_assign rfl rfl) rfl rfl ?_
  refine wo_nil ?_
  refine thenW_n ?_
  refine wc_ret ?_
  refine endW_ret rfl rfl ?_
  exact ⟨rfl, w12.done⟩
set_option maxHeartbeats 2000000 in
theorem expr_rec (h : Rep m E pb oN oO P) (hf : is P kfun = false) (hs : is P klet = true) (hr : is (drop1 P) krec = true) {a b : Int} {A B : PS} (h1 : run E n .inner (must E kset (name E (name E (drop1 (drop1 P))).2).2) = some (a, A)) (h2 : run E n .inner (must E kin A) = some (b, B)) : ∃ m', Ev Tryd.prog xb ext 21 [.ptr pb 0] m (.int .i64 (put E { k := 6, a := a, b := b, x := (name E (drop1 (drop1 P))).1, y := (name E (name E (drop1 (drop1 P))).2).1, at_ := here E P } B).1) m' ∧ Post m E pb oN oO m' (put E { k := 6, a := a, b := b, x := (name E (drop1 (drop1 P))).1, y := (name E (name E (drop1 (drop1 P))).2).1, at_ := here E P } B).2 := by
  refine ev_to ?_
  have hh := here_spec (xb := xb) hX.no h
  refine ev_of (fun m => hX.no _ _ m (by decide)) Tryd.func21 rfl rfl ?_
  refine wc_seq ?_
  refine wc_region ?_
  refine wo_n rfl (nv_assign rfl rfl) rfl rfl ?_
  refine wo_nil ?_
  refine thenW_n ?_
  refine wc_seq ?_
  refine wc_region ?_
  refine wo_n rfl (nv_move rfl rfl) rfl rfl ?_
  refine wo_call rfl rfl (by kernel_rfl) (hh) rfl rfl ?_
  refine wo_n rfl (nv_buildS rfl rfl rfl) rfl rfl ?_
  refine wo_alloc rfl rfl rfl rfl ?_
  intro g1 m1 o1 f1 l1
  have w1 := Wx.start (.refl h) o1 f1 l1
  refine wo_store rfl rfl rfl rfl (by assumption) rfl rfl (Nat.le_of_ble_eq_true rfl) rfl ?_
  intro m2 o2 f2 n2
  have w2 : W0 m E pb oN oO g1 { at_ := here E P } m2 P := w1.store o2 f2
  refine wo_nil ?_
  refine thenW_n ?_
  refine wc_seq ?_
  refine wc_block ?_
  refine wc_seq ?_
  refine wc_region ?_
  refine wo_n rfl (nv_move rfl rfl) rfl rfl ?_
  obtain ⟨m3, h3, w3, l3⟩ := w2.call fun _ _ r => take_false (xb := xb) hX r kfun hf
  refine wo_call rfl rfl (by kernel_rfl) (h3) rfl rfl ?_
  refine wo_n rfl (nv_assign rfl rfl) rfl rfl ?_
  refine wo_nil ?_
  refine thenW_n ?_
  refine wc_false rfl ?_
  refine wc_seq ?_
  refine wc_region ?_
  refine wo_n rfl (nv_move rfl rfl) rfl rfl ?_
  obtain ⟨m3', h3', w3', l3'⟩ := w3.call fun _ _ r => take_true (xb := xb) hX r klet hs
  have b3 := w3'.b
  refine wo_call rfl rfl (by kernel_rfl) (h3') rfl rfl ?_
  refine wo_n rfl (nv_assign rfl rfl) rfl rfl ?_
  refine wo_nil ?_
  refine thenW_n ?_
  refine wc_true rfl ?_
  refine wc_seq ?_
  refine wc_region ?_
  refine wo_n rfl (nv_fa rfl rfl) rfl rfl ?_
  refine wo_store rfl rfl rfl rfl (by assumption) rfl rfl (Nat.le_of_ble_eq_true rfl) rfl ?_
  intro m3 o3 f3 n3
  have w4 : W0 m E pb oN oO g1 { k := 5, at_ := here E P } m3 _ := w3'.store o3 f3
  refine wo_nil ?_
  refine thenW_n ?_
  refine wc_seq ?_
  refine wc_seq ?_
  refine wc_region ?_
  refine wo_n rfl (nv_move rfl rfl) rfl rfl ?_
  obtain ⟨m5, h5, w5, l5⟩ := w4.call fun _ _ r => take_true (xb := xb) hX r krec hr
  have b5 := w5.b
  refine wo_call rfl rfl (by kernel_rfl) (h5) rfl rfl ?_
  refine wo_nil ?_
  refine thenW_n ?_
  refine wc_true rfl ?_
  refine wc_region ?_
  refine wo_n rfl (nv_fa rfl rfl) rfl rfl ?_
  refine wo_store rfl rfl rfl rfl (by assumption) rfl rfl (Nat.le_of_ble_eq_true rfl) rfl ?_
  intro m4 o4 f4 n4
  have w5' : W0 m E pb oN oO g1 { k := 6, at_ := here E P } m4 _ := w5.store o4 f4
  refine wo_nil ?_
  refine thenW_n ?_
  refine wc_seq ?_
  refine wc_region ?_
  refine wo_n rfl (nv_move rfl rfl) rfl rfl ?_
  obtain ⟨m6, h6, w6, l6⟩ := w5'.call fun _ _ r => name_spec (xb := xb) hX.no r
  have b6 := w6.b
  refine wo_call rfl rfl (by kernel_rfl) (h6) rfl rfl ?_
  refine wo_n rfl (nv_fa rfl rfl) rfl rfl ?_
  refine wo_store rfl rfl rfl rfl (by assumption) rfl rfl (Nat.le_of_ble_eq_true rfl) rfl ?_
  intro m5 o5 f5 n5
  have w7 : W0 m E pb oN oO g1 { k := 6, x := (name E (drop1 (drop1 P))).1, at_ := here E P } m5 _ := w6.store o5 f5
  have c7 : m5.cell g1 0 = some (.int .i64 6) := w7.b.cell (i := 0) rfl
  refine wo_nil ?_
  refine thenW_n ?_
  refine wc_seq ?_
  refine wc_seq ?_
  refine wc_region ?_
  refine wo_n rfl (nv_fa rfl rfl) rfl rfl ?_
  refine wo_m rfl (mv_load rfl rfl (by assumption)) rfl rfl ?_
  refine wo_n rfl (nv_eqlT rfl rfl rfl (by first | assumption | decide | omega)) rfl rfl ?_
  refine wo_nil ?_
  refine thenW_n ?_
  refine wc_true rfl ?_
  refine wc_region ?_
  refine wo_n rfl (nv_move rfl rfl) rfl rfl ?_
  obtain ⟨m7', h7', w7', l7'⟩ := w7.call fun _ _ r => name_spec (xb := xb) hX.no r
  have b7 := w7'.b
  refine wo_call rfl rfl (by kernel_rfl) (h7') rfl rfl ?_
  refine wo_n rfl (nv_fa rfl rfl) rfl rfl ?_
  refine wo_store rfl rfl rfl rfl (by assumption) rfl rfl (Nat.le_of_ble_eq_true rfl) rfl ?_
  intro m6 o6 f6 n6
  have w7'' : W0 m E pb oN oO g1 { k := 6, x := (name E (drop1 (drop1 P))).1, y := (name E (name E (drop1 (drop1 P))).2).1, at_ := here E P } m6 _ := w7'.store o6 f6
  refine wo_nil ?_
  refine thenW_n ?_
  refine wc_seq ?_
  refine wc_region ?_
  refine wo_n rfl (nv_move rfl rfl) rfl rfl ?_
  obtain ⟨m8, h8, w8, l8⟩ := w7''.call fun _ _ r => then_spec (xb := xb) hX hS r kset h1
  have b8 := w8.b
  refine wo_call rfl rfl (by kernel_rfl) (h8) rfl rfl ?_
  refine wo_n rfl (nv_fa rfl rfl) rfl rfl ?_
  refine wo_store rfl rfl rfl rfl (by assumption) rfl rfl (Nat.le_of_ble_eq_true rfl) rfl ?_
  intro m7 o7 f7 n7
  have w9 : W0 m E pb oN oO g1 { k := 6, a := a, x := (name E (drop1 (drop1 P))).1, y := (name E (name E (drop1 (drop1 P))).2).1, at_ := here E P } m7 _ := w8.store o7 f7
  refine wo_nil ?_
  refine thenW_n ?_
  refine wc_region ?_
  refine wo_n rfl (nv_move rfl rfl) rfl rfl ?_
  obtain ⟨m10, h10, w10, l10⟩ := w9.call fun _ _ r => then_spec (xb := xb) hX hS r kin h2
  have b10 := w10.b
  refine wo_call rfl rfl (by kernel_rfl) (h10) rfl rfl ?_
  refine wo_n rfl (nv_fa rfl rfl) rfl rfl ?_
  refine wo_store rfl rfl rfl rfl (by assumption) rfl rfl (Nat.le_of_ble_eq_true rfl) rfl ?_
  intro m8 o8 f8 n8
  have w11 : W0 m E pb oN oO g1 { k := 6, a := a, b := b, x := (name E (drop1 (drop1 P))).1, y := (name E (name E (drop1 (drop1 P))).2).1, at_ := here E P } m8 _ := w10.store o8 f8
  have x11 := w11.b.rowAll (n := 10) rfl
  refine wo_nil ?_
  refine blockW_n ?_
  refine thenW_n ?_
  refine wc_seq ?_
  refine wc_region ?_
  refine wo_n rfl (nv_move rfl rfl) rfl rfl ?_
  refine wo_m rfl (mv_loadA rfl rfl (by assumption)) rfl rfl ?_
  obtain ⟨m12, h12, w12, l12⟩ := w11.call fun _ _ r => put_spec (xb := xb) hX.no r _
  refine wo_call rfl rfl (by kernel_rfl) (h12) rfl rfl ?_
  refine wo_n rfl (nv_assign rfl rfl) rfl rfl ?_
  refine wo_nil ?_
  refine thenW_n ?_
  refine wc_ret ?_
  refine endW_ret rfl rfl ?_
  exact ⟨rfl, w12.done⟩
set_option maxHeartbeats 2000000 in
theorem expr_if (h : Rep m E pb oN oO P) (hf : is P kfun = false) (hs : is P klet = false) (hi : is P kif = true) {a b c : Int} {A B C : PS} (h1 : run E n .inner (drop1 P) = some (a, A)) (h2 : run E n .inner (must E kthen A) = some (b, B)) (h3 : run E n .inner (must E kelse B) = some (c, C)) : ∃ m', Ev Tryd.prog xb ext 21 [.ptr pb 0] m (.int .i64 (put E { k := 7, a := a, b := b, c := c, at_ := here E P } C).1) m' ∧ Post m E pb oN oO m' (put E { k := 7, a := a, b := b, c := c, at_ := here E P } C).2 := by
  refine ev_to ?_
  have hh := here_spec (xb := xb) hX.no h
  refine ev_of (fun m => hX.no _ _ m (by decide)) Tryd.func21 rfl rfl ?_
  refine wc_seq ?_
  refine wc_region ?_
  refine wo_n rfl (nv_assign rfl rfl) rfl rfl ?_
  refine wo_nil ?_
  refine thenW_n ?_
  refine wc_seq ?_
  refine wc_region ?_
  refine wo_n rfl (nv_move rfl rfl) rfl rfl ?_
  refine wo_call rfl rfl (by kernel_rfl) (hh) rfl rfl ?_
  refine wo_n rfl (nv_buildS rfl rfl rfl) rfl rfl ?_
  refine wo_alloc rfl rfl rfl rfl ?_
  intro g1 m1 o1 f1 l1
  have w1 := Wx.start (.refl h) o1 f1 l1
  refine wo_store rfl rfl rfl rfl (by assumption) rfl rfl (Nat.le_of_ble_eq_true rfl) rfl ?_
  intro m2 o2 f2 n2
  have w2 : W0 m E pb oN oO g1 { at_ := here E P } m2 P := w1.store o2 f2
  refine wo_nil ?_
  refine thenW_n ?_
  refine wc_seq ?_
  refine wc_block ?_
  refine wc_seq ?_
  refine wc_region ?_
  refine wo_n rfl (nv_move rfl rfl) rfl rfl ?_
  obtain ⟨n3, k3, w3, l3⟩ := w2.call fun _ _ r => take_false (xb := xb) hX r kfun hf
  refine wo_call rfl rfl (by kernel_rfl) (k3) rfl rfl ?_
  refine wo_n rfl (nv_assign rfl rfl) rfl rfl ?_
  refine wo_nil ?_
  refine thenW_n ?_
  refine wc_false rfl ?_
  refine wc_seq ?_
  refine wc_region ?_
  refine wo_n rfl (nv_move rfl rfl) rfl rfl ?_
  obtain ⟨n4, k4, w4, l4⟩ := w3.call fun _ _ r => take_false (xb := xb) hX r klet hs
  refine wo_call rfl rfl (by kernel_rfl) (k4) rfl rfl ?_
  refine wo_n rfl (nv_assign rfl rfl) rfl rfl ?_
  refine wo_nil ?_
  refine thenW_n ?_
  refine wc_false rfl ?_
  refine wc_seq ?_
  refine wc_region ?_
  refine wo_n rfl (nv_move rfl rfl) rfl rfl ?_
  obtain ⟨n5, k5, w5, l5⟩ := w4.call fun _ _ r => take_true (xb := xb) hX r kif hi
  refine wo_call rfl rfl (by kernel_rfl) (k5) rfl rfl ?_
  refine wo_n rfl (nv_assign rfl rfl) rfl rfl ?_
  refine wo_nil ?_
  refine thenW_n ?_
  refine wc_true rfl ?_
  refine wc_seq ?_
  refine wc_region ?_
  refine wo_n rfl (nv_move rfl rfl) rfl rfl ?_
  obtain ⟨n6, k6, w6, l6⟩ := w5.call fun _ _ r => hS.inner r h1
  have b6 := w6.b
  refine wo_call rfl rfl (by kernel_rfl) (k6) rfl rfl ?_
  refine wo_n rfl (nv_fa rfl rfl) rfl rfl ?_
  refine wo_store rfl rfl rfl rfl (by assumption) rfl rfl (Nat.le_of_ble_eq_true rfl) rfl ?_
  intro m3 o3 f3 n3
  have w7 : W0 m E pb oN oO g1 { k := 7, at_ := here E P } m3 _ := w6.store o3 f3
  refine wo_n rfl (nv_fa rfl rfl) rfl rfl ?_
  refine wo_store rfl rfl rfl rfl (by assumption) rfl rfl (Nat.le_of_ble_eq_true rfl) rfl ?_
  intro m4 o4 f4 n4
  have w8 : W0 m E pb oN oO g1 { k := 7, a := a, at_ := here E P } m4 _ := w7.store o4 f4
  refine wo_nil ?_
  refine thenW_n ?_
  refine wc_seq ?_
  refine wc_region ?_
  refine wo_n rfl (nv_move rfl rfl) rfl rfl ?_
  obtain ⟨n9, k9, w9, l9⟩ := w8.call fun _ _ r => then_spec (xb := xb) hX hS r kthen h2
  have b9 := w9.b
  refine wo_call rfl rfl (by kernel_rfl) (k9) rfl rfl ?_
  refine wo_n rfl (nv_fa rfl rfl) rfl rfl ?_
  refine wo_store rfl rfl rfl rfl (by assumption) rfl rfl (Nat.le_of_ble_eq_true rfl) rfl ?_
  intro m5 o5 f5 n5
  have w10 : W0 m E pb oN oO g1 { k := 7, a := a, b := b, at_ := here E P } m5 _ := w9.store o5 f5
  refine wo_nil ?_
  refine thenW_n ?_
  refine wc_region ?_
  refine wo_n rfl (nv_move rfl rfl) rfl rfl ?_
  obtain ⟨n11, k11, w11, l11⟩ := w10.call fun _ _ r => then_spec (xb := xb) hX hS r kelse h3
  have b11 := w11.b
  refine wo_call rfl rfl (by kernel_rfl) (k11) rfl rfl ?_
  refine wo_n rfl (nv_fa rfl rfl) rfl rfl ?_
  refine wo_store rfl rfl rfl rfl (by assumption) rfl rfl (Nat.le_of_ble_eq_true rfl) rfl ?_
  intro m6 o6 f6 n6
  have w12 : W0 m E pb oN oO g1 { k := 7, a := a, b := b, c := c, at_ := here E P } m6 _ := w11.store o6 f6
  have x11 := w12.b.rowAll (n := 10) rfl
  refine wo_nil ?_
  refine blockW_n ?_
  refine thenW_n ?_
  refine wc_seq ?_
  refine wc_region ?_
  refine wo_n rfl (nv_move rfl rfl) rfl rfl ?_
  refine wo_m rfl (mv_loadA rfl rfl (by assumption)) rfl rfl ?_
  obtain ⟨n13, k13, w13, l13⟩ := w12.call fun _ _ r => put_spec (xb := xb) hX.no r _
  refine wo_call rfl rfl (by kernel_rfl) (k13) rfl rfl ?_
  refine wo_n rfl (nv_assign rfl rfl) rfl rfl ?_
  refine wo_nil ?_
  refine thenW_n ?_
  refine wc_ret ?_
  refine endW_ret rfl rfl ?_
  exact ⟨rfl, w13.done⟩
theorem expr_spec (h : Rep m E pb oN oO P) (hr : run E (n + 1) .expr P = some (v, Q)) : ∃ m', Ev Tryd.prog xb ext 21 [.ptr pb 0] m (.int .i64 v) m' ∧ Post m E pb oN oO m' Q := by
  simp only [run] at hr
  split at hr
  · rename_i hs
    obtain ⟨a, A, h1, hr⟩ := bindR_some hr
    obtain ⟨rfl, rfl⟩ := put_eq hr
    exact expr_fun hX hS h hs h1
  · rename_i hf
    rw [Bool.not_eq_true] at hf
    split at hr
    · rename_i hs
      split at hr
      · rename_i hc
        unfold letM at hr
        obtain ⟨a, A, h1, hr⟩ := bindR_some hr
        obtain ⟨b, B, h2, hr⟩ := bindR_some hr
        obtain ⟨rfl, rfl⟩ := put_eq hr
        exact expr_rec hX hS h hf hs hc h1 h2
      · rename_i hc
        rw [Bool.not_eq_true] at hc
        unfold letM at hr
        obtain ⟨a, A, h1, hr⟩ := bindR_some hr
        obtain ⟨b, B, h2, hr⟩ := bindR_some hr
        obtain ⟨rfl, rfl⟩ := put_eq hr
        exact expr_let hX hS h hf hs hc h1 h2
    · rename_i hs
      rw [Bool.not_eq_true] at hs
      split at hr
      · rename_i hi
        obtain ⟨a, A, h1, hr⟩ := bindR_some hr
        obtain ⟨b, B, h2, hr⟩ := bindR_some hr
        obtain ⟨c, C, h3, hr⟩ := bindR_some hr
        obtain ⟨rfl, rfl⟩ := put_eq hr
        exact expr_if hX hS h hf hs hi h1 h2 h3
      · rename_i hi
        rw [Bool.not_eq_true] at hi
        refine ev_to ?_
        have hh := here_spec (xb := xb) hX.no h
        refine ev_of (fun m => hX.no _ _ m (by decide)) Tryd.func21 rfl rfl ?_
        refine wc_seq ?_
        refine wc_region ?_
        refine wo_n rfl (nv_assign rfl rfl) rfl rfl ?_
        refine wo_nil ?_
        refine thenW_n ?_
        refine wc_seq ?_
        refine wc_region ?_
        refine wo_n rfl (nv_move rfl rfl) rfl rfl ?_
        refine wo_call rfl rfl (by kernel_rfl) (hh) rfl rfl ?_
        refine wo_n rfl (nv_buildS rfl rfl rfl) rfl rfl ?_
        refine wo_alloc rfl rfl rfl rfl ?_
        intro g1 m1 o1 f1 l1
        have w1 := Wx.start (.refl h) o1 f1 l1
        refine wo_store rfl rfl rfl rfl (by assumption) rfl rfl (Nat.le_of_ble_eq_true rfl) rfl ?_
        intro m2 o2 f2 n2
        have w2 : W0 m E pb oN oO g1 { at_ := here E P } m2 P := w1.store o2 f2
        refine wo_nil ?_
        refine thenW_n ?_
        refine wc_seq ?_
        refine wc_block ?_
        refine wc_seq ?_
        refine wc_region ?_
        refine wo_n rfl (nv_move rfl rfl) rfl rfl ?_
        obtain ⟨n3, k3, w3, l3⟩ := w2.call fun _ _ r => take_false (xb := xb) hX r kfun hf
        refine wo_call rfl rfl (by kernel_rfl) (k3) rfl rfl ?_
        refine wo_n rfl (nv_assign rfl rfl) rfl rfl ?_
        refine wo_nil ?_
        refine thenW_n ?_
        refine wc_false rfl ?_
        refine wc_seq ?_
        refine wc_region ?_
        refine wo_n rfl (nv_move rfl rfl) rfl rfl ?_
        obtain ⟨n4, k4, w4, l4⟩ := w3.call fun _ _ r => take_false (xb := xb) hX r klet hs
        refine wo_call rfl rfl (by kernel_rfl) (k4) rfl rfl ?_
        refine wo_n rfl (nv_assign rfl rfl) rfl rfl ?_
        refine wo_nil ?_
        refine thenW_n ?_
        refine wc_false rfl ?_
        refine wc_seq ?_
        refine wc_region ?_
        refine wo_n rfl (nv_move rfl rfl) rfl rfl ?_
        obtain ⟨n5, k5, w5, l5⟩ := w4.call fun _ _ r => take_false (xb := xb) hX r kif hi
        refine wo_call rfl rfl (by kernel_rfl) (k5) rfl rfl ?_
        refine wo_n rfl (nv_assign rfl rfl) rfl rfl ?_
        refine wo_nil ?_
        refine thenW_n ?_
        refine wc_false rfl ?_
        refine wc_seq ?_
        refine wc_region ?_
        refine wo_n rfl (nv_move rfl rfl) rfl rfl ?_
        obtain ⟨n6, k6, w6, l6⟩ := w5.call fun _ _ r => hS.level (l := 0) (by omega) r hr
        refine wo_call rfl rfl (by kernel_rfl) (k6) rfl rfl ?_
        refine wo_n rfl (nv_assign rfl rfl) rfl rfl ?_
        refine wo_nil ?_
        refine thenW_n ?_
        refine wc_ret ?_
        refine blockW_r ?_
        refine thenW_r ?_
        refine endW_ret rfl rfl ?_
        exact ⟨rfl, w6.done⟩
end
end Go.Proofs.YtoedpbjeangdhaaDoor.Sy
