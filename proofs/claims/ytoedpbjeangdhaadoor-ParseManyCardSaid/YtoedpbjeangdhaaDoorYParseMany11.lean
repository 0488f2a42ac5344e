/- Several texts in one: contracts of functions of the program, and what they lean on. In part written by a program of this session over the kit's print, in part by hand. -/
import Derived.Test.YtoedpbjeangdhaaDoorYParseMany10
import Derived.Test.YtoedpbjeangdhaaDoorYParseMany5
import Derived.Shelf.Small.Strs
import Derived.Shelf.Utf8.RuneCount
import Derived.Shelf.Strings.Search1
import Derived.Shelf.Strings.Search2
import Derived.Shelf.Strings.Search3
import Derived.Shelf.Strings.Cut
import Derived.Shelf.Strings.Count
import Derived.Shelf.LaysM
import Derived.Shelf.Strings.Shaped
import Derived.Shelf.Strings.Prefix
import Derived.Shelf.Strings.Split
import Derived.Shelf.Strings.SplitShaped
import Derived.Shelf.Unicode.Decode
import Derived.Shelf.Strings.RuneCount
import Derived.Shelf.Strings.Explode
import Derived.Shelf.Unicode.DecodeSlow
import Derived.Shelf.Unicode.DecodeAny
import Derived.Shelf.Slices.Turned
import Derived.Test.YtoedpbjeangdhaaDoorProg
import Derived.Test.YtoedpbjeangdhaaDoorYParseMany4
import Derived.Test.YtoedpbjeangdhaaDoorTie
import Derived.Test.YtoedpbjeangdhaaDoorYParseMany0
namespace Go.Proofs.YtoedpbjeangdhaaDoor.Sy
open Go Go.Ev Go.Ev.Pm Go.Ev.Lm
set_option linter.unusedVariables false
set_option linter.unusedSimpArgs false
set_option linter.unusedSectionVars false
theorem flat_get {α : Type} {k : Nat} {f : α → List V} (hf : ∀ t, (f t).length = k) : ∀ (ts : List α) (i : Nat) (t : α) (j : Nat), ts[i]? = some t → j < k → (ts.flatMap f)[i * k + j]? = (f t)[j]? := by
  intro ts
  induction ts with
  | nil => intro i t j h; simp at h
  | cons a r ih =>
    intro i t j h hj
    rw [List.flatMap_cons]
    cases i with
    | zero =>
      simp at h
      subst h
      rw [List.getElem?_append_left (by rw [hf]; omega)]
      simp
    | succ i =>
      rw [List.getElem?_append_right (by rw [hf, Nat.add_mul]; omega)]
      have := ih i t j (by simpa using h) hj
      rw [hf, ← this]
      congr 1
      rw [Nat.add_mul]; omega
theorem tokR_of {m : Mem} {own own' : Nat → Prop} {tv : V} {ts : List Tk} (h : RowR m own 60 4 tv (ts.flatMap tkC) ts.length) (hd : ∀ x, x < m.next → ¬ own' x) : TokR m own' tv ts := by
  generalize hn : ts.length = n at h
  generalize hc : ts.flatMap tkC = cs at h
  cases h with
  | nil =>
    have : ts = [] := List.eq_nil_of_length_eq_zero hn
    subst this
    exact .nil
  | sl q n cs hg hl =>
    refine .sl q 0 _ _ ts hn.symm (fun i t ht => ?_) (Nat.le_refl _) (hd q hg.lt) hg.lt ?_
    · have key : ∀ j, j < 4 → cs[i * 4 + j]? = (tkC t)[j]? := fun j hj => by rw [← hc]; exact flat_get (k := 4) (fun _ => rfl) ts i t j ht hj
      exact ⟨hg.cell (by rw [Nat.zero_add]; exact key 0 (by omega)), hg.cell (by rw [Nat.zero_add]; exact key 1 (by omega)), hg.cell (by rw [Nat.zero_add]; exact key 2 (by omega)), hg.cell (by rw [Nat.zero_add]; exact key 3 (by omega))⟩
    · obtain ⟨f, tot, c, post, h1, _⟩ := hg.blk
      unfold elOf; rw [h1]
theorem RowR.form {m : Mem} {own : Nat → Prop} {el sz n : Nat} {v : V} {cs : List V} (h : RowR m own el sz v cs n) : v = .nils ∨ ∃ q, v = .sl q 0 n n sz := by
  cases h with
  | nil => exact .inl rfl
  | sl q n cs hg hl => exact .inr ⟨q, rfl⟩
theorem RowR.nil0 {m : Mem} {own : Nat → Prop} {el sz n : Nat} {cs : List V} (h : RowR m own el sz .nils cs n) : n = 0 := by
  generalize hv : V.nils = v at h
  cases h with
  | nil => rfl
  | sl q n cs hg hl => cases hv
def parseL (l : List UInt8) : PR := match lexT l with
  | .err a _ => .err a 400
  | .ok ts => parseM l.length ts
structure ProgO (m m' : Mem) (ov nv : V) (ops : List Od) (ns : List Nd) : Prop where
  ex : ∃ oO oN, RowR m' oO 35 3 ov (ops.flatMap odC) ops.length ∧ RowR m' oN 38 10 nv (ns.flatMap ndC) ns.length ∧ (∀ x, oO x → m.next ≤ x) ∧ (∀ x, oN x → m.next ≤ x) ∧ (∀ x, oN x → ¬ oO x) ∧ (∀ x, oN x → x < m'.next) ∧ ∀ x, oO x → x < m'.next
  nl : ns.length ≤ 512
  ol : ops.length ≤ 4
theorem frame_out {m m' : Mem} {pb : Nat} (f : Fr (own pb F0 F0) m m') (h : m.next ≤ pb) : Fr F0 m m' := ⟨f.nw, f.gl, f.le, fun q hq _ => f.eq q hq (by
  rintro (h1 | h1 | h1)
  · omega
  · exact h1
  · exact h1)⟩
theorem own_new {m : Mem} {pb : Nat} {bN bO : Nat → Prop} (s : Sub m (own pb F0 F0) (own pb bN bO)) (h : m.next ≤ pb) {x : Nat} (k : own pb bN bO x) : m.next ≤ x := by
  refine Nat.le_of_not_lt fun hx => ?_
  rcases s x hx k with h1 | h1 | h1
  · omega
  · exact h1
  · exact h1
section
variable {m m' : Mem} {E : Int} {pb : Nat} {oN oO : Nat → Prop} {P P' : PS} {xb : XB} {ext : CallF} (hL : LH xb ext) (hX : XH ext)
theorem told_ev (hg : Good m.gl) {own : Nat → Prop} {ev : V} {c a : Int} (hr : ErrR m own ev (some (c, a))) (hL : LH xb ext) : ext 16 [ev] m = some (.tup [.int .i64 a, .int .i64 c], m) := by
  cases hr with
  | errno fb c a h hn => exact hL.toldE _ _ _ _ hg h
  | want fb wb s a h hw hn hv => exact hL.toldW _ _ _ _ _ hg h hw
include hL hX
set_option maxHeartbeats 2000000 in
theorem parse_spec (hN : New m) (hg : Good m.gl) (l : List UInt8) : ∃ v m', Ev Tryd.prog xb ext 6 [vs (txt l)] m v m' ∧ (Fr F0 m m' ∧ match parseL l with
    | .err a c => v = .tup [.agg [.nils, .nils], .int .i64 a, .int .i64 c]
    | .ok ops ns => ∃ ov nv, v = .tup [.agg [ov, nv], .int .i64 0, .int .i64 0] ∧ ProgO m m' ov nv ops ns) := by
  unfold parseL
  cases hT : lexT l with
  | err a c =>
    dsimp only
    refine ev_of (fun m => hL.no _ _ m (by decide)) Tryd.func6 rfl rfl ?_
    have hc0 : c ≠ 0 := lexT_err hT
    refine wc_seq ?_
    refine wc_region ?_
    refine wo_alloc rfl rfl rfl rfl ?_
    intro g1 m1 o1 f1 l1
    have a1 := o1
    have fa := f1
    refine wo_n rfl (nv_assign rfl rfl) rfl rfl ?_
    refine wo_n rfl (nv_assign rfl rfl) rfl rfl ?_
    refine wo_nil ?_
    refine thenW_n ?_
    refine wc_seq ?_
    refine wc_region ?_
    refine wo_n rfl (nv_move rfl rfl) rfl rfl ?_
    obtain ⟨v, mt, hv, ft, hr⟩ := Tokens_spec (m := m1) hL (fa.nw hN) (by rw [fa.gl]; exact hg) l
    rw [hT] at hr
    subst hr
    have a2 := a1.fr ft (fun h => h)
    refine wo_call rfl rfl (by kernel_rfl) (hv) rfl rfl ?_
    refine wo_n rfl (nv_move rfl rfl) rfl rfl ?_
    refine wo_n rfl (nv_ex rfl rfl rfl) rfl rfl ?_
    refine wo_n rfl (nv_ex rfl rfl rfl) rfl rfl ?_
    refine wo_n rfl (nv_ex rfl rfl rfl) rfl rfl ?_
    refine wo_n rfl (nv_assign rfl rfl) rfl rfl ?_
    refine wo_n rfl (nv_assign rfl rfl) rfl rfl ?_
    refine wo_n rfl (nv_assign rfl rfl) rfl rfl ?_
    refine wo_nil ?_
    refine thenW_n ?_
    refine wc_seq ?_
    refine wc_seq ?_
    refine wc_region ?_
    refine wo_n rfl (nv_move rfl rfl) rfl rfl ?_
    refine wo_n rfl (nv_neqT rfl rfl rfl (by first | assumption | decide | omega)) rfl rfl ?_
    refine wo_nil ?_
    refine thenW_n ?_
    refine wc_true rfl ?_
    refine wc_seq ?_
    refine wc_region ?_
    refine wo_n rfl (nv_buildS rfl rfl rfl) rfl rfl ?_
    refine wo_n rfl (nv_move rfl rfl) rfl rfl ?_
    refine wo_store rfl rfl rfl rfl (by assumption) rfl rfl (Nat.le_of_ble_eq_true rfl) rfl ?_
    intro m2 o2 f2 n2
    have x9 := o2.rowAll (n := 2) rfl
    have f9 := f2
    refine wo_n rfl (nv_assign rfl rfl) rfl rfl ?_
    refine wo_n rfl (nv_assign rfl rfl) rfl rfl ?_
    refine wo_nil ?_
    refine thenW_n ?_
    refine wc_ret ?_
    refine thenW_r ?_
    refine endW_many (by intro i hi; cases hi) rfl (rs := [.cell 2 26, .tmp 3, .tmp 4]) (.cell rfl (by assumption) (.tmp rfl (.tmp rfl .nil))) (by simp) ?_
    exact ⟨fr_new (fa.trans ft (fun _ _ h => h)) f9 a2 l1, rfl⟩
  | ok ts =>
    dsimp only
    refine ev_of (fun m => hL.no _ _ m (by decide)) Tryd.func6 rfl rfl ?_
    refine wc_seq ?_
    refine wc_region ?_
    refine wo_alloc rfl rfl rfl rfl ?_
    intro g1 m1 o1 f1 l1
    have a1 := o1
    have fa := f1
    refine wo_n rfl (nv_assign rfl rfl) rfl rfl ?_
    refine wo_n rfl (nv_assign rfl rfl) rfl rfl ?_
    refine wo_nil ?_
    refine thenW_n ?_
    refine wc_seq ?_
    refine wc_region ?_
    refine wo_n rfl (nv_move rfl rfl) rfl rfl ?_
    obtain ⟨v, mt, hv, ft, hr⟩ := Tokens_spec (m := m1) hL (fa.nw hN) (by rw [fa.gl]; exact hg) l
    rw [hT] at hr
    obtain ⟨tv, rfl, ow, htk, how⟩ := hr
    have a2 := a1.fr ft (fun h => h)
    have htv := RowR.form htk
    rcases htv with rfl | ⟨qq, rfl⟩
    all_goals
      refine wo_call rfl rfl (by kernel_rfl) (hv) rfl rfl ?_
      refine wo_n rfl (nv_move rfl rfl) rfl rfl ?_
      refine wo_n rfl (nv_ex rfl rfl rfl) rfl rfl ?_
      refine wo_n rfl (nv_ex rfl rfl rfl) rfl rfl ?_
      refine wo_n rfl (nv_ex rfl rfl rfl) rfl rfl ?_
      refine wo_n rfl (nv_assign rfl rfl) rfl rfl ?_
      refine wo_n rfl (nv_assign rfl rfl) rfl rfl ?_
      refine wo_n rfl (nv_assign rfl rfl) rfl rfl ?_
      refine wo_nil ?_
      refine thenW_n ?_
      refine wc_seq ?_
      refine wc_seq ?_
      refine wc_region ?_
      refine wo_n rfl (nv_move rfl rfl) rfl rfl ?_
      refine wo_n rfl (nv_neqF rfl rfl rfl (by first | assumption | decide | omega)) rfl rfl ?_
      refine wo_nil ?_
      refine thenW_n ?_
      refine wc_false rfl ?_
      refine wc_skip ?_
      refine thenW_n ?_
      refine wc_seq ?_
      refine wc_region ?_
      refine wo_n rfl (nv_move rfl rfl) rfl rfl ?_
      refine wo_n rfl (nv_move rfl rfl) rfl rfl ?_
      first
        | refine wo_n rfl (nv_lenL rfl rfl rfl) rfl rfl ?_
        | refine wo_n rfl (nv_lenT rfl rfl rfl) rfl rfl ?_
      refine wo_n rfl (nv_buildS rfl rfl rfl) rfl rfl ?_
      refine wo_box rfl rfl rfl rfl rfl ?_
      intro g2 m2 o2 f2 l2
      have a3 := o2
      have fb := f2
      have lb := l2
      refine wo_n rfl (nv_assign rfl rfl) rfl rfl ?_
      refine wo_nil ?_
      refine thenW_n ?_
      refine wc_seq ?_
      refine wc_block ?_
      have lb' : m.next ≤ g2 := by have h1 := fa.le; have h2 := ft.le; omega
      have hle1 := fa.le
      have hle2 := ft.le
      have htk2 := htk.fr fb (fun _ _ _ h => h)
      have hgb : g1 < mt.next := Nat.lt_of_lt_of_le a1.lt ft.le
      have htR : TokR m2 (own g2 F0 F0) _ ts := (tokR_of (own' := own g2 F0 F0) htk (fun x hx => by
        rintro (h | h | h)
        · omega
        · exact h
        · exact h)).fr fb (fun _ _ h => h.elim) (fun _ _ h => h)
      have hNb : New m2 := fb.nw (ft.nw (fa.nw hN))
      have hR : Rep m2 (l.length : Nat) g2 F0 F0 { toks := ts } := ⟨⟨_, .nils, .nils, .nili, ⟨a3, htR, .nil, .nil, .none⟩⟩, fun h => h, fun h => h, fun _ h => h.elim, by simp, by simp, (show (0 : Int) ≤ 0 by decide), (show (0 : Int) ≤ 40 by decide), hNb, fun _ h => h.elim, fun _ h => h.elim, by rw [fb.gl, ft.gl, fa.gl]; exact hg⟩
      have w0 : Wx m (l.length : Nat) g2 F0 F0 26 g1 [.nils, .nils] m2 { toks := ts } := ⟨a2.fr fb (fun h => h), ⟨F0, F0, hR, by
        rintro (h | h | h)
        · omega
        · exact h
        · exact h, fun _ _ h => h⟩, ((fa.trans ft (fun _ _ h => h)).trans fb (fun _ _ h => h)).mono (fun _ _ h => h.elim), l1⟩
      refine wc_loop (fun k e mj => ∃ P', ELe (envL [(0, vs (txt l)), (2, .ptr g1 0), (8, .ptr g2 0)]) e ∧ Wx m (l.length : Nat) g2 F0 F0 26 g1 [.nils, .nils] mj P' ∧ opsM (l.length : Nat) (ts.length + 1) { toks := ts } = opsM (l.length : Nat) k P' ∧ (P'.toks.length < k ∨ is P' kop = false) ∧ P'.toks.length ≤ ts.length) (ts.length + 1) ⟨{ toks := ts }, ?_, w0, rfl, .inl (Nat.lt_succ_self _), Nat.le_refl _⟩ ?_
      · exact .cons rfl (.cons rfl (.cons rfl (.nil _)))
      rintro k e mj ⟨P', he, w, heq, hk, hle⟩
      refine Wc.weak ?_ he
      clear he
      obtain ⟨aN, aO, r, hn, s⟩ := w.p
      have his := is_spec (xb := xb) hX.no r kop
      cases hop : is P' kop with
      | true =>
        rw [hop] at his hk
        rcases hk with hk | hk
        · skip
          obtain ⟨k, rfl⟩ : ∃ j, k = j + 1 := ⟨k - 1, by omega⟩
          obtain ⟨mo, hho, w2, lo⟩ := w.call fun _ _ r => op_spec (xb := xb) hX r
          refine wc_seq ?_
          refine wc_seq ?_
          refine wc_region ?_
          refine wo_n rfl (nv_move rfl rfl) rfl rfl ?_
          refine wo_call rfl rfl (by kernel_rfl) (his) rfl rfl ?_
          refine wo_nil ?_
          refine thenW_n ?_
          refine wc_true rfl ?_
          refine wc_skip ?_
          refine thenW_n ?_
          refine wc_block ?_
          refine wc_region ?_
          refine wo_n rfl (nv_move rfl rfl) rfl rfl ?_
          refine wo_call rfl rfl (by kernel_rfl) (hho) rfl rfl ?_
          refine wo_nil ?_
          refine blockW_n ?_
          refine ⟨k, Nat.lt_succ_self _, opM (l.length : Nat) P', .cons rfl (.cons rfl (.cons rfl (.nil _))), w2, ?_, ?_, Nat.le_trans (opM_le _).2 hle⟩
          · rw [heq]; simp only [opsM]; rw [if_pos hop]
          · rcases opM_lt (E := (l.length : Nat)) hop with h | h
            · left; omega
            · exact .inr h
        · cases hk
      | false =>
        rw [hop] at his
        have heq' : opsM (l.length : Nat) (ts.length + 1) { toks := ts } = P' := by
          rw [heq]
          cases k with
          | zero => rfl
          | succ k => simp only [opsM]; rw [hop]; rfl
        obtain ⟨⟨vi, Q⟩, hrun⟩ : ∃ r, run (l.length : Nat) (fuelOf ts) .inner P' = some r := Option.ne_none_iff_exists'.1 (run_fuel hle)
        have hPP : parseP (l.length : Nat) ts = endM (l.length : Nat) Q := by unfold parseP; rw [heq']; dsimp only; rw [hrun]
        obtain ⟨mi, hi, w2, li⟩ := w.call fun _ _ r => (spec_all (xb := xb) (pb := g2) hX (fuelOf ts)).inner r hrun
        obtain ⟨bN, bO, r2, hn2, s2⟩ := w2.p
        obtain ⟨nv, hnv, hNR⟩ := next_spec (xb := xb) hX.no r2
        cases hnx : next Q with
        | some t =>
          rw [hnx] at hNR
          obtain ⟨tb, tz, rfl, hA, hno, hbl⟩ := hNR
          have hE' : endM (l.length : Nat) Q = fail (l.length : Nat) 403 Q := by unfold endM; rw [hnx]
          obtain ⟨z, hz⟩ := fail_err (E := (l.length : Nat)) 403 Q
          obtain ⟨zc, za⟩ := z
          have hM : parseM (l.length : Nat) ts = .err za zc := by unfold parseM; rw [hPP, hE', hz]
          rw [hM]
          refine wc_seq ?_
          refine wc_seq ?_
          refine wc_region ?_
          refine wo_n rfl (nv_move rfl rfl) rfl rfl ?_
          refine wo_call rfl rfl (by kernel_rfl) (his) rfl rfl ?_
          refine wo_nil ?_
          refine thenW_n ?_
          refine wc_false rfl ?_
          refine wc_exit ?_
          refine thenW_x ?_
          refine blockW_x ?_
          refine thenW_n ?_
          refine wc_seq ?_
          refine wc_region ?_
          refine wo_n rfl (nv_move rfl rfl) rfl rfl ?_
          refine wo_call rfl rfl (by kernel_rfl) (hi) rfl rfl ?_
          refine wo_nil ?_
          refine thenW_n ?_
          refine wc_seq ?_
          refine wc_seq ?_
          refine wc_region ?_
          refine wo_n rfl (nv_move rfl rfl) rfl rfl ?_
          refine wo_call rfl rfl (by kernel_rfl) (hnv) rfl rfl ?_
          refine wo_n rfl (nv_neqP rfl rfl rfl) rfl rfl ?_
          refine wo_nil ?_
          refine thenW_n ?_
          refine wc_true rfl ?_
          refine wc_region ?_
          refine wo_n rfl (nv_move rfl rfl) rfl rfl ?_
          refine wo_n rfl (nv_buildS rfl rfl rfl) rfl rfl ?_
          refine wo_box rfl rfl rfl rfl rfl ?_
          intro g1 m1 o1 f1 l1
          have r4 := r2.alloc f1
          have hgn : ¬ own g2 bN bO g1 := fun hc => Nat.lt_irrefl _ (Nat.lt_of_lt_of_le (r2.lt hc) l1)
          obtain ⟨mf, hf, pf⟩ := fail_spec (xb := xb) hX.no r4 (.want g1 (txt [101, 110, 100]) o1 hgn)
          have w3 := w2.to hn2 s2 (.alloc r2 f1 pf)
          refine wo_n rfl (nv_mkI rfl rfl) rfl rfl ?_
          refine wo_call rfl rfl (by kernel_rfl) (hf) rfl rfl ?_
          obtain ⟨cN, cO, r5, hn5, s5⟩ := w3.p
          obtain ⟨tv5, ov5, nv5, t5, v5, hp5⟩ := r5.hasErr hz
          have c5 := hp5.obj.cell (i := 4) rfl
          have he5 := hp5.err
          rw [hz] at he5
          have ht5 := ev_ext (p := Tryd.prog) (xb := xb) (told_ev r5.gl he5 hL)
          have b5 := w3.b
          refine wo_nil ?_
          refine thenW_n ?_
          refine wc_seq ?_
          refine wc_seq ?_
          refine wc_region ?_
          refine wo_n rfl (nv_move rfl rfl) rfl rfl ?_
          refine wo_n rfl (nv_nil rfl rfl rfl) rfl rfl ?_
          refine wo_n rfl (nv_fa rfl rfl) rfl rfl ?_
          refine wo_m rfl (mv_load rfl rfl (by assumption)) rfl rfl ?_
          refine wo_n rfl (nv_neqI rfl rfl rfl) rfl rfl ?_
          refine wo_nil ?_
          refine thenW_n ?_
          refine wc_true rfl ?_
          refine wc_seq ?_
          refine wc_region ?_
          refine wo_n rfl (nv_move rfl rfl) rfl rfl ?_
          refine wo_n rfl (nv_nil rfl rfl rfl) rfl rfl ?_
          refine wo_n rfl (nv_fa rfl rfl) rfl rfl ?_
          refine wo_m rfl (mv_load rfl rfl (by assumption)) rfl rfl ?_
          refine wo_call rfl rfl (by kernel_rfl) (ht5) rfl rfl ?_
          refine wo_n rfl (nv_move rfl rfl) rfl rfl ?_
          refine wo_n rfl (nv_ex rfl rfl rfl) rfl rfl ?_
          refine wo_n rfl (nv_ex rfl rfl rfl) rfl rfl ?_
          refine wo_n rfl (nv_assign rfl rfl) rfl rfl ?_
          refine wo_n rfl (nv_assign rfl rfl) rfl rfl ?_
          refine wo_nil ?_
          refine thenW_n ?_
          refine wc_seq ?_
          refine wc_region ?_
          refine wo_n rfl (nv_buildS rfl rfl rfl) rfl rfl ?_
          refine wo_n rfl (nv_move rfl rfl) rfl rfl ?_
          refine wo_n rfl (nv_move rfl rfl) rfl rfl ?_
          refine wo_store rfl rfl rfl rfl (by assumption) rfl rfl (Nat.le_of_ble_eq_true rfl) rfl ?_
          intro m2 o2 f2 n2
          have x9 := o2.rowAll (n := 2) rfl
          have w4 := w3.store o2 f2
          refine wo_n rfl (nv_assign rfl rfl) rfl rfl ?_
          refine wo_n rfl (nv_assign rfl rfl) rfl rfl ?_
          refine wo_nil ?_
          refine thenW_n ?_
          refine wc_ret ?_
          refine thenW_r ?_
          refine endW_many (by intro i hi; cases hi) rfl (rs := [.cell 2 26, .tmp 3, .tmp 4]) (.cell rfl (by assumption) (.tmp rfl (.tmp rfl .nil))) (by simp) ?_
          exact ⟨frame_out w4.f lb', rfl⟩
        | none =>
          rw [hnx] at hNR
          cases hNR
          have hE' : endM (l.length : Nat) Q = Q := by unfold endM; rw [hnx]
          cases hz : Q.err with
          | some z =>
            obtain ⟨zc, za⟩ := z
            have hM : parseM (l.length : Nat) ts = .err za zc := by unfold parseM; rw [hPP, hE', hz]
            rw [hM]
            obtain ⟨tv5, ov5, nv5, t5, v5, hp5⟩ := r2.hasErr hz
            have c5 := hp5.obj.cell (i := 4) rfl
            have he5 := hp5.err
            rw [hz] at he5
            have ht5 := ev_ext (p := Tryd.prog) (xb := xb) (told_ev r2.gl he5 hL)
            have b5 := w2.b
            refine wc_seq ?_
            refine wc_seq ?_
            refine wc_region ?_
            refine wo_n rfl (nv_move rfl rfl) rfl rfl ?_
            refine wo_call rfl rfl (by kernel_rfl) (his) rfl rfl ?_
            refine wo_nil ?_
            refine thenW_n ?_
            refine wc_false rfl ?_
            refine wc_exit ?_
            refine thenW_x ?_
            refine blockW_x ?_
            refine thenW_n ?_
            refine wc_seq ?_
            refine wc_region ?_
            refine wo_n rfl (nv_move rfl rfl) rfl rfl ?_
            refine wo_call rfl rfl (by kernel_rfl) (hi) rfl rfl ?_
            refine wo_nil ?_
            refine thenW_n ?_
            refine wc_seq ?_
            refine wc_seq ?_
            refine wc_region ?_
            refine wo_n rfl (nv_move rfl rfl) rfl rfl ?_
            refine wo_call rfl rfl (by kernel_rfl) (hnv) rfl rfl ?_
            refine wo_n rfl (nv_neqQ rfl rfl rfl) rfl rfl ?_
            refine wo_nil ?_
            refine thenW_n ?_
            refine wc_false rfl ?_
            refine wc_skip ?_
            refine thenW_n ?_
            refine wc_seq ?_
            refine wc_seq ?_
            refine wc_region ?_
            refine wo_n rfl (nv_move rfl rfl) rfl rfl ?_
            refine wo_n rfl (nv_nil rfl rfl rfl) rfl rfl ?_
            refine wo_n rfl (nv_fa rfl rfl) rfl rfl ?_
            refine wo_m rfl (mv_load rfl rfl (by assumption)) rfl rfl ?_
            refine wo_n rfl (nv_neqI rfl rfl rfl) rfl rfl ?_
            refine wo_nil ?_
            refine thenW_n ?_
            refine wc_true rfl ?_
            refine wc_seq ?_
            refine wc_region ?_
            refine wo_n rfl (nv_move rfl rfl) rfl rfl ?_
            refine wo_n rfl (nv_nil rfl rfl rfl) rfl rfl ?_
            refine wo_n rfl (nv_fa rfl rfl) rfl rfl ?_
            refine wo_m rfl (mv_load rfl rfl (by assumption)) rfl rfl ?_
            refine wo_call rfl rfl (by kernel_rfl) (ht5) rfl rfl ?_
            refine wo_n rfl (nv_move rfl rfl) rfl rfl ?_
            refine wo_n rfl (nv_ex rfl rfl rfl) rfl rfl ?_
            refine wo_n rfl (nv_ex rfl rfl rfl) rfl rfl ?_
            refine wo_n rfl (nv_assign rfl rfl) rfl rfl ?_
            refine wo_n rfl (nv_assign rfl rfl) rfl rfl ?_
            refine wo_nil ?_
            refine thenW_n ?_
            refine wc_seq ?_
            refine wc_region ?_
            refine wo_n rfl (nv_buildS rfl rfl rfl) rfl rfl ?_
            refine wo_n rfl (nv_move rfl rfl) rfl rfl ?_
            refine wo_n rfl (nv_move rfl rfl) rfl rfl ?_
            refine wo_store rfl rfl rfl rfl (by assumption) rfl rfl (Nat.le_of_ble_eq_true rfl) rfl ?_
            intro m1 o1 f1 n1
            have x9 := o1.rowAll (n := 2) rfl
            have w4 := w2.store o1 f1
            refine wo_n rfl (nv_assign rfl rfl) rfl rfl ?_
            refine wo_n rfl (nv_assign rfl rfl) rfl rfl ?_
            refine wo_nil ?_
            refine thenW_n ?_
            refine wc_ret ?_
            refine thenW_r ?_
            refine endW_many (by intro i hi; cases hi) rfl (rs := [.cell 2 26, .tmp 3, .tmp 4]) (.cell rfl (by assumption) (.tmp rfl (.tmp rfl .nil))) (by simp) ?_
            exact ⟨frame_out w4.f lb', rfl⟩
          | none =>
            have hM : parseM (l.length : Nat) ts = .ok Q.ops Q.ns := by unfold parseM; rw [hPP, hE', hz]
            rw [hM]
            obtain ⟨tv5, ov5, nv5, hp5⟩ := r2.noErr hz
            have c5 := hp5.obj.cell (i := 4) rfl
            have c52 := hp5.obj.cell (i := 2) rfl
            have c53 := hp5.obj.cell (i := 3) rfl
            have b5 := w2.b
            have hro := hp5.ops
            have hrn := hp5.ns
            have hfo := RowR.form hro
            have hfn := RowR.form hrn
            rcases hfo with rfl | ⟨qo, rfl⟩ <;> rcases hfn with rfl | ⟨qn, rfl⟩
            all_goals
              refine wc_seq ?_
              refine wc_seq ?_
              refine wc_region ?_
              refine wo_n rfl (nv_move rfl rfl) rfl rfl ?_
              refine wo_call rfl rfl (by kernel_rfl) (his) rfl rfl ?_
              refine wo_nil ?_
              refine thenW_n ?_
              refine wc_false rfl ?_
              refine wc_exit ?_
              refine thenW_x ?_
              refine blockW_x ?_
              refine thenW_n ?_
              refine wc_seq ?_
              refine wc_region ?_
              refine wo_n rfl (nv_move rfl rfl) rfl rfl ?_
              refine wo_call rfl rfl (by kernel_rfl) (hi) rfl rfl ?_
              refine wo_nil ?_
              refine thenW_n ?_
              refine wc_seq ?_
              refine wc_seq ?_
              refine wc_region ?_
              refine wo_n rfl (nv_move rfl rfl) rfl rfl ?_
              refine wo_call rfl rfl (by kernel_rfl) (hnv) rfl rfl ?_
              refine wo_n rfl (nv_neqQ rfl rfl rfl) rfl rfl ?_
              refine wo_nil ?_
              refine thenW_n ?_
              refine wc_false rfl ?_
              refine wc_skip ?_
              refine thenW_n ?_
              refine wc_seq ?_
              refine wc_seq ?_
              refine wc_region ?_
              refine wo_n rfl (nv_move rfl rfl) rfl rfl ?_
              refine wo_n rfl (nv_nil rfl rfl rfl) rfl rfl ?_
              refine wo_n rfl (nv_fa rfl rfl) rfl rfl ?_
              refine wo_m rfl (mv_load rfl rfl (by assumption)) rfl rfl ?_
              refine wo_n rfl (nv_neqN rfl rfl rfl rfl) rfl rfl ?_
              refine wo_nil ?_
              refine thenW_n ?_
              refine wc_false rfl ?_
              refine wc_skip ?_
              refine thenW_n ?_
              refine wc_seq ?_
              refine wc_draw (by kernel_rfl) ?_
              refine wd_cast (l' := [0, 1, 2, 3, 4, 5, 6, 7, 8, 9, 10, 11]) (by kernel_rfl) rfl ?_
              refine wd_n rfl rfl rfl (nv_move rfl rfl) rfl rfl ?_
              refine wd_n rfl rfl rfl (nv_nil rfl rfl rfl) rfl rfl ?_
              refine wd_n rfl rfl rfl (nv_fa rfl rfl) rfl rfl ?_
              refine wd_load rfl rfl rfl rfl (by assumption) rfl rfl ?_
              refine wd_n rfl rfl rfl (nv_move rfl rfl) rfl rfl ?_
              refine wd_n rfl rfl rfl (nv_nil rfl rfl rfl) rfl rfl ?_
              refine wd_n rfl rfl rfl (nv_fa rfl rfl) rfl rfl ?_
              refine wd_load rfl rfl rfl rfl (by assumption) rfl rfl ?_
              refine wd_n rfl rfl rfl (nv_buildS rfl rfl rfl) rfl rfl ?_
              refine wd_store rfl rfl rfl rfl rfl (by assumption) rfl rfl (Nat.le_of_ble_eq_true rfl) (by kernel_rfl) (by kernel_rfl) rfl ?_
              intro m1 o1 f1 n1
              have x9 := o1.rowAll (n := 2) rfl
              have f9 := f1
              have w4 := w2.store o1 f1
              refine wd_n rfl rfl rfl (nv_assign rfl rfl) rfl rfl ?_
              refine wd_n rfl rfl rfl (nv_assign rfl rfl) rfl rfl ?_
              refine wd_nil ?_
              refine thenW_n ?_
              refine wc_ret ?_
              refine endW_many (by intro i hi; cases hi) rfl (rs := [.cell 2 26, .tmp 3, .tmp 4]) (.cell rfl (by assumption) (.tmp rfl (.tmp rfl .nil))) (by simp) ?_
              refine ⟨frame_out w4.f lb', _, _, rfl, ⟨⟨bO, bN, hro.fr f9 (fun x hx k e => hn2 (e ▸ .inr (.inr k))), hrn.fr f9 (fun x hx k e => hn2 (e ▸ .inr (.inl k))), fun x h => ?_, fun x h => ?_, r2.dd, fun x h => Nat.lt_of_lt_of_le (r2.lN x h) f9.le, fun x h => Nat.lt_of_lt_of_le (r2.lO x h) f9.le⟩, r2.nl, r2.ol⟩⟩
              · exact own_new s2 lb' (.inr (.inr h))
              · exact own_new s2 lb' (.inr (.inl h))
end
end Go.Proofs.YtoedpbjeangdhaaDoor.Sy

namespace Go.Proofs.YtoedpbjeangdhaaDoor.Sy
open Go Go.Ev Go.Ev.Pm Go.Ev.Lm
set_option linter.unusedVariables false
set_option linter.unusedSimpArgs false
set_option linter.unusedSectionVars false
theorem num_spec {xb : XB} {ext : CallF} (hn : ∀ (f : Nat) (a : List V) (m : Mem), f ∉ XS → ext f a m = none) (m : Mem) (a : Int) : Ev Tryd.prog xb ext 7 [.int .i64 a] m (.int .i64 a) m := by
  refine ev_val ?_
  refine ev_of (fun m => hn _ _ m (by decide)) Tryd.func7 rfl rfl ?_
  refine wc_seq ?_
  refine wc_region ?_
  refine wo_n rfl (nv_assign rfl rfl) rfl rfl ?_
  refine wo_nil ?_
  refine thenW_n ?_
  refine wc_seq ?_
  refine wc_region ?_
  refine wo_n rfl (nv_move rfl rfl) rfl rfl ?_
  refine wo_n rfl (nv_assign rfl rfl) rfl rfl ?_
  refine wo_nil ?_
  refine thenW_n ?_
  refine wc_ret ?_
  refine endW_ret rfl rfl ?_
  exact ⟨rfl, rfl⟩
section
variable {m : Mem} {xb : XB} {ext : CallF} (hL : LH xb ext) (hX : XH ext) (hA : ∀ m, Good m.gl → ext 5 [] m = some (.bool true, m))
include hL hX hA
end
end Go.Proofs.YtoedpbjeangdhaaDoor.Sy

namespace Go.Ev.Em
open Go Go.Ev.Pm Go.Ev.Lm
set_option linter.unusedVariables false
set_option linter.unusedSimpArgs false
def oneT (q : Int) : Tk := ⟨1, txt [], 1, q⟩
def plusT (p : Int) : Tk := ⟨3, txt [43], 0, p⟩
def pairsT : List (Int × Int) → List Tk
  | [] => []
  | (p, q) :: r => plusT p :: oneT q :: pairsT r
section
variable {E : Int} {P Q : PS}
theorem txt_beq {a b : List UInt8} : (txt a == txt b) = (a == b) := by
  rw [bbeq]
  by_cases h : a = b
  · subst h; simp
  · have : ¬ txt a = txt b := fun e => h (txt_inj e)
    simp [h, this]
theorem is_pairs {ps : List (Int × Int)} (h : P.toks = pairsT ps) {s : List UInt8} (hs : (([43] : List UInt8) == s) = false) : is P (txt s) = false := by
  unfold is next
  cases P.err with
  | some z => rfl
  | none =>
    dsimp only
    rw [h]
    cases ps with
    | nil => rfl
    | cons x r =>
      obtain ⟨p, q⟩ := x
      show isT (plusT p) (txt s) = false
      unfold isT plusT
      dsimp only
      rw [txt_beq, hs]; simp
theorem is_one {q : Int} {r : List Tk} (h : P.toks = oneT q :: r) (s : ByteArray) : is P s = false := by
  unfold is next
  cases P.err with
  | some z => rfl
  | none => dsimp only; rw [h]; rfl
theorem starts_pairs {ps : List (Int × Int)} (h : P.toks = pairsT ps) : starts P = false := by
  have i1 : is P ktrue = false := is_pairs h (s := [116, 114, 117, 101]) rfl
  have i2 : is P kfalse = false := is_pairs h (s := [102, 97, 108, 115, 101]) rfl
  have i3 : is P kopen = false := is_pairs h (s := [40]) rfl
  have i4 : is P khandle = false := is_pairs h (s := [104, 97, 110, 100, 108, 101]) rfl
  unfold starts
  rw [i1, i2, i3, i4]
  unfold next
  cases P.err with
  | some z => rfl
  | none =>
    dsimp only
    rw [h]
    cases ps with
    | nil => rfl
    | cons x r => obtain ⟨p, q⟩ := x; rfl
theorem prim_pairs {ps : List (Int × Int)} (h : P.toks = pairsT ps) {l : Nat} (hl : l ≠ 1) : prim l P = none := by
  have i1 : is P keq = false := is_pairs h (s := [61, 61]) rfl
  have i2 : is P klt = false := is_pairs h (s := [60]) rfl
  have i3 : is P kmul = false := is_pairs h (s := [42]) rfl
  have i4 : is P kquo = false := is_pairs h (s := [47]) rfl
  unfold prim
  split
  · rw [i1, i2]; rfl
  · exact absurd rfl hl
  · rw [i3, i4]; rfl
theorem prim_one {l : Nat} (h : P.err ≠ none ∨ P.toks = []) : prim l P = none := by
  have : ∀ s, is P s = false := fun s => by
    unfold is next
    rcases h with h | h
    · cases hE : P.err with
      | none => exact absurd hE h
      | some z => rfl
    · cases P.err with
      | some z => rfl
      | none => dsimp only; rw [h]; rfl
  unfold prim
  split <;> simp [this]
theorem put_toks (x : Nd) (P : PS) : (put E x P).2.toks = P.toks := by
  have hf : (fail E 402 P).toks = P.toks := by unfold fail; split <;> rfl
  have key : ∀ Q : PS, (match Q.err with | some _ => ((0 : Int), Q) | none => (Q.ns.length, { Q with ns := Q.ns ++ [x] })).2.toks = Q.toks := fun Q => by split <;> rfl
  unfold put
  split
  · exact (key _).trans hf
  · exact key P
theorem put_err {x : Nd} (h : P.err ≠ none) : (put E x P).2 = P := by
  have hf : fail E 402 P = P := by
    unfold fail
    cases hE : P.err with
    | none => exact absurd hE h
    | some z => rfl
  unfold put
  rw [hf]
  cases hE : P.err with
  | none => exact absurd hE h
  | some z => split <;> (dsimp only; rw [hE])
theorem put_full {x : Nd} (h : P.err = none) (hl : P.ns.length = 512) : (put E x P).2 = fail E 402 P ∧ (fail E 402 P).err = some (402, here E P) := by
  have he : (fail E 402 P).err = some (402, here E P) := by unfold fail; rw [h]
  refine ⟨?_, he⟩
  unfold put
  rw [if_pos hl]
  dsimp only
  rw [he]
theorem put_ok {x : Nd} (h : P.err = none) (hl : P.ns.length ≠ 512) : (put E x P).2 = { P with ns := P.ns ++ [x] } := by
  unfold put
  rw [if_neg hl]
  dsimp only
  rw [h]
def oneN (q : Int) : Nd := { k := 1, num := 1, at_ := q }
theorem level_one {q : Int} {ps : List (Int × Int)} (he : P.err = none) (ht : P.toks = oneT q :: pairsT ps) (n : Nat) : run E (n + 6) (.level 2) P = some (put E (oneN q) (drop1 P)) := by
  have hn : next P = some (oneT q) := by unfold next; rw [he, ht]; rfl
  have hs : starts P = true := by unfold starts; rw [hn]; rfl
  have hh : here E P = q := by unfold here; rw [ht]; rfl
  have hd : (drop1 P).toks = pairsT ps := by unfold drop1; rw [ht]; rfl
  have hat : run E (n + 3) .atom P = some (put E (oneN q) (drop1 P)) := by
    rw [run]
    rw [if_pos hs, hn]
    dsimp only
    rw [if_neg (by show ¬ (1 : Int) = 0; decide), if_pos (show (oneT q).kind = 1 from rfl), hh]
    rfl
  have ht2 : (put E (oneN q) (drop1 P)).2.toks = pairsT ps := by rw [put_toks, hd]
  have hap : run E (n + 4) .apply P = some (put E (oneN q) (drop1 P)) := by
    rw [run]
    rw [if_neg (by rw [is_one ht]; simp), hat]
    simp only [bindR]
    rw [run, if_neg (by rw [starts_pairs ht2]; simp)]
  have h3 : run E (n + 5) (.level 3) P = some (put E (oneN q) (drop1 P)) := by
    have : run E (n + 5) (.level 3) P = run E (n + 4) .apply P := by rw [run, if_pos rfl]
    rw [this, hap]
  have h2 : run E (n + 6) (.level 2) P = bindR (run E (n + 5) (.level 3) P) fun a P => run E (n + 5) (.more 2 a) P := by
    rw [run, if_neg (by decide)]
  rw [h2, h3]
  simp only [bindR]
  rw [run]
  rw [prim_pairs ht2 (by decide)]
theorem run_level (n l : Nat) (P : PS) (h : l ≠ 3) : run E (n + 1) (.level l) P = bindR (run E n (.level (l + 1)) P) fun a P => run E n (.more l a) P := by rw [run, if_neg h]
def Fin (E : Int) (ps : List (Int × Int)) (P Q : PS) : Prop := (P.err ≠ none → Q = P) ∧ (P.err = none → P.ns.length ≤ 512 → if P.ns.length + 2 * ps.length ≤ 512 then Q.err = none ∧ Q.ns.length = P.ns.length + 2 * ps.length ∧ Q.toks = [] else ∃ a, Q.err = some (402, a) ∧ 1 ≤ a ∧ a ≤ E)
theorem here_pairs {ps : List (Int × Int)} (h : P.toks = pairsT ps) (hp : ∀ x, x ∈ ps → 1 ≤ x.1 ∧ x.1 ≤ E) (hE : 1 ≤ E) : 1 ≤ here E P ∧ here E P ≤ E := by
  unfold here
  rw [h]
  cases ps with
  | nil => exact ⟨hE, by show E ≤ E; omega⟩
  | cons x r => obtain ⟨p, q⟩ := x; exact hp (p, q) (by simp)
theorem more_ones (hE : 1 ≤ E) : ∀ (ps : List (Int × Int)) (a : Int) (P : PS) (n : Nat), P.toks = pairsT ps → (∀ x, x ∈ ps → 1 ≤ x.1 ∧ x.1 ≤ E) → ∃ v Q, run E (n + 10 * ps.length + 8) (.more 1 a) P = some (v, Q) ∧ Fin E ps P Q := by
  intro ps
  induction ps with
  | nil =>
    intro a P n ht _
    refine ⟨a, P, ?_, fun _ => rfl, fun he hl => ?_⟩
    · rw [run]
      rw [prim_one (.inr ht)]
    · rw [if_pos (by simpa using hl)]
      exact ⟨he, rfl, ht⟩
  | cons x ps ih =>
    intro a P n ht hp
    obtain ⟨p, q⟩ := x
    by_cases he : P.err = none
    · have hk : is P kadd = true := by
        unfold is next
        rw [he, ht]
        rfl
      have hprim : prim 1 P = some 0 := by
        show (if is P kadd then some (0 : Int) else if is P ksub then some 1 else none) = some 0
        rw [if_pos hk]
      have hd : (drop1 P).toks = oneT q :: pairsT ps := by unfold drop1; rw [ht]; rfl
      have hde : (drop1 P).err = none := he
      have hdd : (drop1 (drop1 P)).toks = pairsT ps := by
        show (drop1 P).toks.tail = _
        rw [hd]; rfl
      have hps : ∀ x, x ∈ ps → 1 ≤ x.1 ∧ x.1 ≤ E := fun x hx => hp x (by simp [hx])
      have h2 := level_one (E := E) hde hd (n + 10 * ps.length + 11)
      have hnn : n + 10 * ((p, q) :: ps).length + 8 = (n + 10 * ps.length + 17) + 1 := by simp; omega
      rw [hnn]
      rw [run]
      rw [hprim]
      dsimp only
      rw [show n + 10 * ps.length + 17 = n + 10 * ps.length + 11 + 6 by omega, h2]
      simp only [bindR]
      rw [if_neg (by decide)]
      generalize hR : put E (oneN q) (drop1 (drop1 P)) = R
      have hRt : R.2.toks = pairsT ps := by rw [← hR, put_toks, hdd]
      generalize hr : put E { k := 8, num := 0, a := a, b := R.1, at_ := here E P } R.2 = r
      have hrt : r.2.toks = pairsT ps := by rw [← hr, put_toks, hRt]
      obtain ⟨v, Q, hq, hf1, hf2⟩ := ih r.1 r.2 (n + 9) hrt hps
      refine ⟨v, Q, by rw [show n + 10 * ps.length + 11 + 6 = n + 9 + 10 * ps.length + 8 by omega]; exact hq, fun h => absurd he h, fun _ hl => ?_⟩
      have hns : (drop1 (drop1 P)).ns = P.ns := rfl
      by_cases h512 : P.ns.length = 512
      · rw [if_neg (by simp; omega)]
        obtain ⟨e1, e2⟩ := put_full (E := E) (x := oneN q) (P := drop1 (drop1 P)) he (by rw [hns]; exact h512)
        rw [hR] at e1
        have hRe : R.2.err = some (402, here E (drop1 (drop1 P))) := by rw [e1, e2]
        have hrR : r.2 = R.2 := by rw [← hr]; exact put_err (by rw [hRe]; simp)
        have := hf1 (by rw [hrR, hRe]; simp)
        rw [this, hrR, hRe]
        exact ⟨_, rfl, here_pairs hdd hps hE⟩
      · have e1 := put_ok (E := E) (x := oneN q) (P := drop1 (drop1 P)) he (by rw [hns]; exact h512)
        rw [hR] at e1
        have hRe : R.2.err = none := by rw [e1]; exact he
        have hRl : R.2.ns.length = P.ns.length + 1 := by rw [e1]; simp [hns]
        by_cases h511 : R.2.ns.length = 512
        · rw [if_neg (by simp; omega)]
          obtain ⟨g1, g2⟩ := put_full (E := E) (x := { k := 8, num := 0, a := a, b := R.1, at_ := here E P }) hRe h511
          rw [hr] at g1
          have hre : r.2.err = some (402, here E R.2) := by rw [g1, g2]
          have := hf1 (by rw [hre]; simp)
          rw [this, hre]
          exact ⟨_, rfl, here_pairs hRt hps hE⟩
        · have g1 := put_ok (E := E) (x := { k := 8, num := 0, a := a, b := R.1, at_ := here E P }) hRe h511
          rw [hr] at g1
          have hre : r.2.err = none := by rw [g1]; exact hRe
          have hrl : r.2.ns.length = P.ns.length + 2 := by rw [g1]; simp [hRl]
          have := hf2 hre (by omega)
          rw [hrl] at this
          by_cases hfit : P.ns.length + 2 * ((p, q) :: ps).length ≤ 512
          · rw [if_pos hfit]
            rw [if_pos (by simp at hfit; omega)] at this
            exact ⟨this.1, by rw [this.2.1]; simp; omega, this.2.2⟩
          · rw [if_neg hfit]
            rw [if_neg (by simp at hfit; omega)] at this
            exact this
    · refine ⟨a, P, ?_, fun _ => rfl, fun h => absurd h he⟩
      have hnn : n + 10 * ((p, q) :: ps).length + 8 = (n + 10 * ((p, q) :: ps).length + 7) + 1 := by omega
      rw [hnn]
      rw [run]
      rw [prim_one (.inl he)]
theorem parse_ones (hE : 1 ≤ E) (ps : List (Int × Int)) (hp : ∀ x, x ∈ ps → 1 ≤ x.1 ∧ x.1 ≤ E) : match parseM E (oneT 0 :: pairsT ps) with
    | .err a c => 512 < 1 + 2 * ps.length ∧ c = 402 ∧ 1 ≤ a ∧ a ≤ E
    | .ok _ ns => 1 + 2 * ps.length ≤ 512 ∧ ns.length = 1 + 2 * ps.length := by
  have hplen : (pairsT ps).length = 2 * ps.length := by
    clear hp
    induction ps with
    | nil => rfl
    | cons x r ih => obtain ⟨p, q⟩ := x; simp only [pairsT, List.length_cons, ih]; omega
  generalize hts : oneT 0 :: pairsT ps = ts
  have hlen : ts.length = 2 * ps.length + 1 := by rw [← hts, List.length_cons, hplen]
  generalize hP0 : ({ toks := ts } : PS) = P0
  have h0t : P0.toks = oneT 0 :: pairsT ps := by rw [← hP0, hts]
  have h0e : P0.err = none := by rw [← hP0]
  have h0d : P0.deep = 0 := by rw [← hP0]
  have h0n : P0.ns = [] := by rw [← hP0]
  have hops : opsM E (ts.length + 1) P0 = P0 := by simp only [opsM]; rw [is_one h0t]; rfl
  generalize hP1 : ({ P0 with deep := P0.deep + 1 } : PS) = P1
  have h1t : P1.toks = oneT 0 :: pairsT ps := by rw [← hP1]; exact h0t
  have h1e : P1.err = none := by rw [← hP1]; exact h0e
  have hd1 : (drop1 P1).toks = pairsT ps := by unfold drop1; rw [h1t]; rfl
  have hput := put_ok (E := E) (x := oneN 0) (P := drop1 P1) h1e (by show P1.ns.length ≠ 512; rw [← hP1]; show P0.ns.length ≠ 512; rw [h0n]; simp)
  obtain ⟨M, n6, hM, hM6⟩ : ∃ M n6, M = 22 * ps.length + 13 + 10 * ps.length + 8 ∧ M = n6 + 6 := ⟨_, 32 * ps.length + 15, rfl, by omega⟩
  have hl2 := level_one (E := E) h1e h1t n6
  rw [← hM6] at hl2
  generalize hR : put E (oneN 0) (drop1 P1) = R at hput hl2
  have hRt : R.2.toks = pairsT ps := by rw [hput]; exact hd1
  have hRe : R.2.err = none := by rw [hput]; exact h1e
  have hRl : R.2.ns.length = 1 := by rw [hput]; show (P1.ns ++ [oneN 0]).length = 1; rw [← hP1]; show (P0.ns ++ [oneN 0]).length = 1; rw [h0n]; rfl
  obtain ⟨v, Q, hq, hf1, hf2⟩ := more_ones hE ps R.1 R.2 (22 * ps.length + 13) hRt hp
  rw [← hM] at hq
  have hl1 : run E (M + 1) (.level 1) P1 = some (v, Q) := by
    rw [run_level M 1 P1 (by decide), hl2]
    exact hq
  have hQ : Q.err ≠ none ∨ Q.toks = [] := by
    have := hf2 hRe (by omega)
    split at this
    · exact .inr this.2.2
    · obtain ⟨a, ha, _⟩ := this
      left; rw [ha]; simp
  have hl0 : run E (M + 1 + 1) (.level 0) P1 = some (v, Q) := by
    rw [run_level (M + 1) 0 P1 (by decide), hl1]
    show run E (M + 1) (.more 0 v) Q = _
    rw [run, prim_one hQ]
  have hex : run E (M + 1 + 1 + 1) .expr P1 = some (v, Q) := by
    rw [run]
    rw [if_neg (by rw [is_one h1t]; simp), if_neg (by rw [is_one h1t]; simp), if_neg (by rw [is_one h1t]; simp)]
    exact hl0
  have hpre : pre E P0 = P0 := by unfold pre; rw [if_neg (by rw [h0d]; decide)]
  have hin : run E (fuelOf ts) .inner P0 = some (v, { Q with deep := Q.deep - 1 }) := by
    have : fuelOf ts = (M + 1 + 1 + 1) + 1 := by unfold fuelOf; rw [hlen]; omega
    rw [this]
    rw [run]
    rw [hpre, h0e]
    dsimp only
    have e1 : ({ toks := P0.toks, ops := P0.ops, ns := P0.ns, err := none, deep := P0.deep + 1 } : PS) = P1 := by rw [← hP1, ← h0e]
    first
      | rw [hP1, hex]; rfl
      | (rw [e1, hex]; rfl)
  have hend : endM E { Q with deep := Q.deep - 1 } = { Q with deep := Q.deep - 1 } := by
    unfold endM next
    rcases hQ with h | h
    · cases hE : Q.err with
      | none => exact absurd hE h
      | some z => rfl
    · cases hE : Q.err with
      | some z => rfl
      | none => dsimp only; rw [h]; rfl
  have hpp : parseP E ts = { Q with deep := Q.deep - 1 } := by
    unfold parseP
    rw [hP0, hops]
    dsimp only
    rw [hin]
    exact hend
  unfold parseM
  rw [hpp]
  have := hf2 hRe (by omega)
  rw [hRl] at this
  dsimp only
  split at this
  · rename_i hfit
    rw [this.1]
    exact ⟨hfit, this.2.1⟩
  · rename_i hfit
    obtain ⟨a, ha, h1, h2⟩ := this
    rw [ha]
    exact ⟨by omega, rfl, h1, h2⟩
end
def repB : Nat → List UInt8 → List UInt8
  | 0, _ => []
  | n + 1, a => a ++ repB n a
def plusL : List UInt8 := [32, 43, 32, 49]
def manyL (m : Nat) : List UInt8 := 49 :: repB m plusL
theorem repB_len (m : Nat) : (repB m plusL).length = 4 * m := by
  induction m with
  | zero => rfl
  | succ m ih => show (plusL ++ repB m plusL).length = _; rw [List.length_append, ih]; show 4 + 4 * m = _; omega
def posF : Int → Nat → List (Int × Int)
  | _, 0 => []
  | p, k + 1 => (p + 1, p + 3) :: posF (p + 4) k
theorem posF_len : ∀ (k : Nat) (p : Int), (posF p k).length = k := by
  intro k
  induction k with
  | zero => exact fun _ => rfl
  | succ k ih => intro p; simp [posF, ih]
theorem posF_in : ∀ (k : Nat) (p : Int) (x : Int × Int), x ∈ posF p k → p + 1 ≤ x.1 ∧ x.1 ≤ p + 4 * k := by
  intro k
  induction k with
  | zero => intro p x h; cases h
  | succ k ih =>
    intro p x h
    simp only [posF, List.mem_cons] at h
    rcases h with rfl | h
    · constructor
      · show p + 1 ≤ p + 1; omega
      · show p + 1 ≤ _; omega
    · have := ih _ _ h; omega
theorem tw_rep (k : Nat) : (repB k plusL).takeWhile isMore = [] := by
  cases k with
  | zero => rfl
  | succ k => rfl
theorem tok_one (k : Nat) : tokM (49 :: repB k plusL) = .ok 1 [] 1 1 := by
  have : (49 :: repB k plusL).takeWhile isMore = [49] := by
    rw [List.takeWhile_cons, if_pos (by decide), tw_rep]
  unfold tokM
  rw [this]
  rfl
theorem lex_rep : ∀ (k f p : Nat), 4 * k ≤ f → lexM f p (repB k plusL) = .ok (pairsT (posF p k)) := by
  intro k
  induction k with
  | zero => intro f p _; cases f <;> rfl
  | succ k ih =>
    intro f p hf
    obtain ⟨f, rfl⟩ : ∃ g, f = g + 4 := ⟨f - 4, by omega⟩
    have h1 : tokM (43 :: 32 :: 49 :: repB k plusL) = .ok 3 [43] 0 1 := by
      unfold tokM
      rw [List.takeWhile_cons, if_neg (by decide)]
      rfl
    show lexM (f + 4) p (32 :: 43 :: 32 :: 49 :: repB k plusL) = _
    simp only [lexM]
    rw [if_pos (show isBlank 32 = true from rfl), if_neg (show ¬ isBlank 43 = true by decide), if_neg (show ¬ (43 : UInt8) = 35 by decide), h1]
    dsimp only
    rw [show List.drop 1 (43 :: 32 :: 49 :: repB k plusL) = 32 :: 49 :: repB k plusL from rfl]
    dsimp only
    rw [if_pos (show isBlank 32 = true from rfl), if_neg (show ¬ isBlank 49 = true by decide), if_neg (show ¬ (49 : UInt8) = 35 by decide), tok_one]
    dsimp only
    rw [show List.drop 1 (49 :: repB k plusL) = repB k plusL from rfl, ih f _ (by omega)]
    show LR.ok _ = LR.ok _
    congr 1
theorem ascii_bad : ∀ (f p : Nat) (l : List UInt8), l.all (fun c => decide (c.toNat < 128)) = true → badM f p l = none := by
  intro f
  induction f with
  | zero => intro p l _; rfl
  | succ f ih =>
    intro p l h
    cases l with
    | nil => rfl
    | cons c r =>
      simp only [List.all_cons, Bool.and_eq_true, decide_eq_true_eq] at h
      have hw : widM (c :: r) = 1 := by
        simp [widM, leadM, h.1]
      simp only [badM]
      rw [hw, if_neg (by decide)]
      exact ih _ _ h.2
theorem many_ascii (m : Nat) : (manyL m).all (fun c => decide (c.toNat < 128)) = true := by
  have : (repB m plusL).all (fun c => decide (c.toNat < 128)) = true := by
    induction m with
    | zero => rfl
    | succ m ih => show (plusL ++ repB m plusL).all _ = true; rw [List.all_append, ih]; rfl
  show (decide ((49 : UInt8).toNat < 128) && (repB m plusL).all (fun c => decide (c.toNat < 128))) = true
  rw [this]; rfl
theorem many_lex (m : Nat) (hm : m ≤ 1000) : lexT (manyL m) = .ok (oneT 0 :: pairsT (posF 1 m)) := by
  have hl : (manyL m).length = 4 * m + 1 := by show (repB m plusL).length + 1 = _; rw [repB_len]
  unfold lexT
  rw [if_neg (by rw [hl]; omega), ascii_bad _ _ _ (many_ascii m), hl]
  dsimp only
  show lexM (4 * m + 1) 0 (49 :: repB m plusL) = _
  simp only [lexM]
  rw [if_neg (show ¬ isBlank 49 = true by decide), if_neg (show ¬ (49 : UInt8) = 35 by decide), tok_one]
  dsimp only
  rw [show List.drop 1 (49 :: repB m plusL) = repB m plusL from rfl, lex_rep m _ _ (by omega)]
  rfl
end Go.Ev.Em

namespace Go.Proofs.YtoedpbjeangdhaaDoor.Sy
open Go Go.Ev Go.Ev.Pm Go.Ev.Lm Go.Ev.Em
set_option linter.unusedVariables false
set_option linter.unusedSimpArgs false
set_option linter.unusedSectionVars false
theorem repB_snoc : ∀ n, repB n plusL ++ plusL = repB (n + 1) plusL := by
  intro n
  induction n with
  | zero => rfl
  | succ n ih =>
    show (plusL ++ repB n plusL) ++ plusL = plusL ++ repB (n + 1) plusL
    rw [List.append_assoc, ih]
theorem many_snoc (n : Nat) : manyL n ++ plusL = manyL (n + 1) := by
  show 49 :: (repB n plusL ++ plusL) = _
  rw [repB_snoc]; rfl
theorem many_len (m : Nat) : (manyL m).length = 4 * m + 1 := by show (repB m plusL).length + 1 = _; rw [repB_len]
theorem many_ok (m : Nat) (hm : m ≤ 1000) : match parseL (manyL m) with
    | .err a c => 512 < 1 + 2 * m ∧ c = 402 ∧ 1 ≤ a ∧ a ≤ (manyL m).length
    | .ok _ ns => 1 + 2 * m ≤ 512 ∧ ns.length = 1 + 2 * m := by
  unfold parseL
  rw [many_lex m hm]
  dsimp only
  have := parse_ones (E := ((manyL m).length : Nat)) (by rw [many_len]; omega) (posF 1 m) (fun x hx => by
    have := posF_in m 1 x hx
    rw [many_len]; omega)
  rw [posF_len] at this
  exact this
section
variable {m : Mem} {xb : XB} {ext : CallF} (hL : LH xb ext) (hX : XH ext) (hA : ∀ m, Good m.gl → ext 5 [] m = some (.bool true, m))
include hL hX hA
set_option maxHeartbeats 1000000 in
theorem many_walk (hN : New m) (hg : Good m.gl) (r : Nat) (hr : r < 128) : ∃ v m', Ev Tryd.prog xb ext 4 [.res .i64 128 r] m v m' ∧ v = .bool true := by
  have haw := ev_ext (p := Tryd.prog) (xb := xb) (hA m hg)
  refine ev_of (fun m => hL.no _ _ m (by decide)) Tryd.func4 rfl rfl ?_
  refine wc_seq ?_
  refine wc_region ?_
  refine wo_n rfl (nv_assign rfl rfl) rfl rfl ?_
  refine wo_nil ?_
  refine thenW_n ?_
  refine wc_seq ?_
  refine wc_seq ?_
  refine wc_region ?_
  refine wo_call rfl rfl (by kernel_rfl) (haw) rfl rfl ?_
  refine wo_n rfl (nv_not rfl rfl) rfl rfl ?_
  refine wo_nil ?_
  refine thenW_n ?_
  refine wc_false rfl ?_
  refine wc_skip ?_
  refine thenW_n ?_
  refine wc_seq ?_
  refine wc_region ?_
  refine wo_n rfl (nv_move rfl rfl) rfl rfl ?_
  refine wo_n rfl (nv_bin rfl rfl rfl ((show _ = some (V.int .i64 ((r : Nat) : Int)) by kernel_rfl))) rfl rfl ?_
  refine wo_n rfl (nv_add rfl rfl rfl rfl (by first | decide | omega) (by first | decide | omega)) rfl rfl ?_
  refine wo_n rfl (nv_assign rfl rfl) rfl rfl ?_
  refine wo_nil ?_
  refine thenW_n ?_
  refine wc_seq ?_
  refine wc_region ?_
  refine wo_n rfl (nv_assign rfl rfl) rfl rfl ?_
  refine wo_nil ?_
  refine thenW_n ?_
  refine wc_seq ?_
  refine wc_seq ?_
  refine wc_region ?_
  refine wo_n rfl (nv_assign rfl rfl) rfl rfl ?_
  refine wo_nil ?_
  refine thenW_n ?_
  refine wc_block ?_
  refine wc_loop (fun k e mj => ∃ i : Nat, k = 200 + r - i ∧ i ≤ 200 + r ∧ mj = m ∧ ELe (envL [(3, .int .i64 (200 + (r : Int))), (4, vs (txt (manyL i))), (5, .int .i64 (i : Nat))]) e) (200 + r) ⟨0, by omega, by omega, rfl, ?_⟩ ?_
  · exact .cons rfl (.cons rfl (.cons rfl (.nil _)))
  rintro k e mj ⟨i, rfl, hi, rfl, he⟩
  refine Wc.weak ?_ he
  clear he
  have hsz : (manyL i).length ≤ 4000 := by rw [many_len]; omega
  rcases Nat.lt_or_ge i (200 + r) with hlt | hge
  · have hs1 : (txt (manyL i)).size + (txt [32, 43, 32, 49]).size ≤ 9223372036854775807 := by rw [txt_len]; show _ + 4 ≤ _; omega
    refine wc_seq ?_
    refine wc_seq ?_
    refine wc_region ?_
    refine wo_n rfl (nv_move rfl rfl) rfl rfl ?_
    refine wo_n rfl (nv_move rfl rfl) rfl rfl ?_
    refine wo_n rfl (nv_lssT rfl rfl rfl (by first | assumption | decide | omega)) rfl rfl ?_
    refine wo_nil ?_
    refine thenW_n ?_
    refine wc_true rfl ?_
    refine wc_skip ?_
    refine thenW_n ?_
    refine wc_seq ?_
    refine wc_block ?_
    refine wc_region ?_
    refine wo_n rfl (nv_move rfl rfl) rfl rfl ?_
    refine wo_n rfl (nv_sadd (u := txt [32, 43, 32, 49]) rfl rfl (show _ = some (vs (txt [32, 43, 32, 49])) by kernel_rfl) (by first | assumption | (simp only [ByteArray.size_append, txt_size, List.length]; omega))) rfl rfl ?_
    refine wo_n rfl (nv_assign rfl rfl) rfl rfl ?_
    refine wo_nil ?_
    refine blockW_n ?_
    refine thenW_n ?_
    refine wc_region ?_
    refine wo_n rfl (nv_move rfl rfl) rfl rfl ?_
    refine wo_n rfl (nv_add rfl rfl rfl rfl (by first | decide | omega) (by first | decide | omega)) rfl rfl ?_
    refine wo_n rfl (nv_assign rfl rfl) rfl rfl ?_
    refine wo_nil ?_
    refine ⟨200 + r - (i + 1), by omega, i + 1, rfl, by omega, rfl, ?_⟩
    refine .cons rfl (.cons ?_ (.cons rfl (.nil _)))
    show some (vs (txt (manyL i) ++ txt [32, 43, 32, 49])) = some (vs (txt (manyL (i + 1))))
    rw [txt_append, ← many_snoc]; rfl
  · have : i = 200 + r := by omega
    subst this
    obtain ⟨v, mp, hv, fp, hres⟩ := parse_spec (m := mj) hL hX hN hg (manyL (200 + r))
    have hok := many_ok (200 + r) (by omega)
    cases hpl : parseL (manyL (200 + r)) with
    | err a c =>
      rw [hpl] at hres hok
      dsimp only at hres hok
      subst hres
      obtain ⟨h512, rfl, h0, h1⟩ := hok
      refine wc_seq ?_
      refine wc_seq ?_
      refine wc_region ?_
      refine wo_n rfl (nv_move rfl rfl) rfl rfl ?_
      refine wo_n rfl (nv_move rfl rfl) rfl rfl ?_
      refine wo_n rfl (nv_lssF rfl rfl rfl (by first | assumption | decide | omega)) rfl rfl ?_
      refine wo_nil ?_
      refine thenW_n ?_
      refine wc_false rfl ?_
      refine wc_exit ?_
      refine thenW_x ?_
      refine blockW_x ?_
      refine thenW_n ?_
      refine wc_seq ?_
      refine wc_region ?_
      refine wo_n rfl (nv_move rfl rfl) rfl rfl ?_
      refine wo_call rfl rfl (by kernel_rfl) (hv) rfl rfl ?_
      refine wo_n rfl (nv_move rfl rfl) rfl rfl ?_
      refine wo_n rfl (nv_ex rfl rfl rfl) rfl rfl ?_
      refine wo_n rfl (nv_ex rfl rfl rfl) rfl rfl ?_
      refine wo_n rfl (nv_ex rfl rfl rfl) rfl rfl ?_
      refine wo_alloc rfl rfl rfl rfl ?_
      intro g1 m1 o1 f1 l1
      have a1 := o1
      refine wo_store rfl rfl rfl rfl (by assumption) rfl rfl (Nat.le_of_ble_eq_true rfl) rfl ?_
      intro m2 o2 f2 n2
      have c1 := o2.cell (i := 1) rfl
      refine wo_n rfl (nv_assign rfl rfl) rfl rfl ?_
      refine wo_n rfl (nv_assign rfl rfl) rfl rfl ?_
      refine wo_nil ?_
      refine thenW_n ?_
      refine wc_seq ?_
      refine wc_seq ?_
      refine wc_region ?_
      refine wo_n rfl (nv_move rfl rfl) rfl rfl ?_
      refine wo_n rfl (nv_mul rfl rfl rfl rfl (by first | decide | omega) (by first | decide | omega)) rfl rfl ?_
      refine wo_n rfl (nv_add rfl rfl rfl rfl (by first | decide | omega) (by first | decide | omega)) rfl rfl ?_
      refine wo_n rfl (nv_gtrT rfl rfl rfl (by first | assumption | decide | omega)) rfl rfl ?_
      refine wo_nil ?_
      refine thenW_n ?_
      refine wc_true rfl ?_
      refine wc_seq ?_
      refine wc_region ?_
      refine wo_n rfl (nv_move rfl rfl) rfl rfl ?_
      refine wo_call rfl rfl (by kernel_rfl) (num_spec hL.no _ 402) rfl rfl ?_
      refine wo_n rfl (nv_eqlT rfl rfl rfl (by first | assumption | decide | omega)) rfl rfl ?_
      refine wo_n rfl (nv_move rfl rfl) rfl rfl ?_
      refine wo_n rfl (nv_fa rfl rfl) rfl rfl ?_
      refine wo_m rfl (mv_load rfl rfl (by assumption)) rfl rfl ?_
      first
        | refine wo_n rfl (nv_lenS rfl rfl rfl) rfl rfl ?_
        | refine wo_n rfl (nv_lenN rfl rfl rfl) rfl rfl ?_
        | refine wo_n rfl (nv_lenR (by assumption) rfl rfl rfl) rfl rfl ?_
      refine wo_n rfl (nv_eqlT rfl rfl rfl (by first | assumption | decide | omega)) rfl rfl ?_
      refine wo_n rfl (nv_pickT rfl rfl rfl) rfl rfl ?_
      refine wo_n rfl (nv_move rfl rfl) rfl rfl ?_
      refine wo_n rfl (nv_move rfl rfl) rfl rfl ?_
      refine wo_n rfl (nv_gtrT rfl rfl rfl (by first | assumption | decide | omega)) rfl rfl ?_
      refine wo_n rfl (nv_pickT rfl rfl rfl) rfl rfl ?_
      refine wo_n rfl (nv_move rfl rfl) rfl rfl ?_
      refine wo_n rfl (nv_move rfl rfl) rfl rfl ?_
      refine wo_n rfl (nv_move rfl rfl) rfl rfl ?_
      first
        | refine wo_n rfl (nv_lenL rfl rfl rfl) rfl rfl ?_
        | refine wo_n rfl (nv_lenT rfl rfl rfl) rfl rfl ?_
      refine wo_n rfl (nv_leqT rfl rfl rfl (by first | assumption | decide | omega)) rfl rfl ?_
      refine wo_n rfl (nv_pickT rfl rfl rfl) rfl rfl ?_
      refine wo_n rfl (nv_assign rfl rfl) rfl rfl ?_
      refine wo_nil ?_
      refine thenW_n ?_
      refine wc_ret ?_
      refine thenW_r ?_
      refine endW_ret rfl rfl ?_
      rfl
    | ok ops ns =>
      rw [hpl] at hres hok
      dsimp only at hres hok
      obtain ⟨ov, nv, rfl, hP⟩ := hres
      obtain ⟨oO, oN, hro, hrn, _, _, _, hlN, hlO⟩ := hP.ex
      obtain ⟨h512, hnl⟩ := hok
      have hfo := RowR.form hro
      have hfn := RowR.form hrn
      rcases hfo with rfl | ⟨qo, rfl⟩ <;> rcases hfn with rfl | ⟨qn, rfl⟩
      all_goals
        try have hz0 := RowR.nil0 hrn
        refine wc_seq ?_
        refine wc_seq ?_
        refine wc_region ?_
        refine wo_n rfl (nv_move rfl rfl) rfl rfl ?_
        refine wo_n rfl (nv_move rfl rfl) rfl rfl ?_
        refine wo_n rfl (nv_lssF rfl rfl rfl (by first | assumption | decide | omega)) rfl rfl ?_
        refine wo_nil ?_
        refine thenW_n ?_
        refine wc_false rfl ?_
        refine wc_exit ?_
        refine thenW_x ?_
        refine blockW_x ?_
        refine thenW_n ?_
        refine wc_seq ?_
        refine wc_region ?_
        refine wo_n rfl (nv_move rfl rfl) rfl rfl ?_
        refine wo_call rfl rfl (by kernel_rfl) (hv) rfl rfl ?_
        refine wo_n rfl (nv_move rfl rfl) rfl rfl ?_
        refine wo_n rfl (nv_ex rfl rfl rfl) rfl rfl ?_
        refine wo_n rfl (nv_ex rfl rfl rfl) rfl rfl ?_
        refine wo_n rfl (nv_ex rfl rfl rfl) rfl rfl ?_
        refine wo_alloc rfl rfl rfl rfl ?_
        intro g1 m1 o1 f1 l1
        have a1 := o1
        have hr1 := hrn.fr f1 (fun _ _ _ h => h)
        refine wo_store rfl rfl rfl rfl (by assumption) rfl rfl (Nat.le_of_ble_eq_true rfl) rfl ?_
        intro m2 o2 f2 n2
        have c1 := o2.cell (i := 1) rfl
        have hr2 := hr1.fr f2 (fun x hx h e => by have h9 := hlN x h; have e9 : x = g1 := e; omega)
        refine wo_n rfl (nv_assign rfl rfl) rfl rfl ?_
        refine wo_n rfl (nv_assign rfl rfl) rfl rfl ?_
        refine wo_nil ?_
        refine thenW_n ?_
        refine wc_seq ?_
        refine wc_seq ?_
        refine wc_region ?_
        refine wo_n rfl (nv_move rfl rfl) rfl rfl ?_
        refine wo_n rfl (nv_mul rfl rfl rfl rfl (by first | decide | omega) (by first | decide | omega)) rfl rfl ?_
        refine wo_n rfl (nv_add rfl rfl rfl rfl (by first | decide | omega) (by first | decide | omega)) rfl rfl ?_
        refine wo_n rfl (nv_gtrF rfl rfl rfl (by first | assumption | decide | omega)) rfl rfl ?_
        refine wo_nil ?_
        refine thenW_n ?_
        refine wc_false rfl ?_
        refine wc_skip ?_
        refine thenW_n ?_
        refine wc_seq ?_
        refine wc_region ?_
        refine wo_n rfl (nv_move rfl rfl) rfl rfl ?_
        refine wo_call rfl rfl (by kernel_rfl) (num_spec hL.no _ 0) rfl rfl ?_
        refine wo_n rfl (nv_eqlT rfl rfl rfl (by first | assumption | decide | omega)) rfl rfl ?_
        refine wo_n rfl (nv_move rfl rfl) rfl rfl ?_
        refine wo_n rfl (nv_fa rfl rfl) rfl rfl ?_
        refine wo_m rfl (mv_load rfl rfl (by assumption)) rfl rfl ?_
        first
          | refine wo_n rfl (nv_lenS rfl rfl rfl) rfl rfl ?_
          | refine wo_n rfl (nv_lenN rfl rfl rfl) rfl rfl ?_
          | refine wo_n rfl (nv_lenR (by assumption) rfl rfl rfl) rfl rfl ?_
        refine wo_n rfl (nv_move rfl rfl) rfl rfl ?_
        refine wo_n rfl (nv_mul rfl rfl rfl rfl (by first | decide | omega) (by first | decide | omega)) rfl rfl ?_
        refine wo_n rfl (nv_add rfl rfl rfl rfl (by first | decide | omega) (by first | decide | omega)) rfl rfl ?_
        refine wo_n rfl (nv_eqlT rfl rfl rfl (by first | assumption | decide | omega)) rfl rfl ?_
        refine wo_n rfl (nv_pickT rfl rfl rfl) rfl rfl ?_
        refine wo_n rfl (nv_assign rfl rfl) rfl rfl ?_
        refine wo_nil ?_
        refine thenW_n ?_
        refine wc_ret ?_
        refine endW_ret rfl rfl ?_
        rfl
end
end Go.Proofs.YtoedpbjeangdhaaDoor.Sy

namespace Go.Proofs
open Go.Shelf
def Tryd.lays219_ren : Go.Shelf.Ren := ⟨fun | 219 => 53 | 217 => 52 | 225 => 62 | 224 => 63 | 267 => 64 | 266 => 61 | 314 => 69 | n => n, fun | 9 => 9 | 3 => 3 | 4 => 4 | 5 => 5 | 46 => 116 | 146 => 122 | 51 => 121 | n => n, fun | 1 => 1 | n => n⟩
theorem Tryd.lays219 : Go.Proofs.Lays.n219 Tryd.prog Tryd.lays219_ren := {
  mixed := by kernel_rfl
  f217 := Tryd.func52.trans (congrArg some (by kernel_rfl))
  f219 := Tryd.func53.trans (congrArg some (by kernel_rfl))
  f224 := Tryd.func63.trans (congrArg some (by kernel_rfl))
  f225 := Tryd.func62.trans (congrArg some (by kernel_rfl))
  f266 := Tryd.func61.trans (congrArg some (by kernel_rfl))
  f267 := Tryd.func64.trans (congrArg some (by kernel_rfl))
  f314 := Tryd.func69.trans (congrArg some (by kernel_rfl))
  t3 := Tryd.underlying3
  a3 := Tryd.isAgg3
  z3 := Tryd.sizeOf3
  v3 := Tryd.zeroValue3
  t4 := Tryd.underlying4
  a4 := Tryd.isAgg4
  z4 := Tryd.sizeOf4
  v4 := Tryd.zeroValue4
  t5 := Tryd.underlying5
  a5 := Tryd.isAgg5
  z5 := Tryd.sizeOf5
  v5 := Tryd.zeroValue5
  t9 := Tryd.underlying9
  a9 := Tryd.isAgg9
  z9 := Tryd.sizeOf9
  v9 := Tryd.zeroValue9
  t46 := Tryd.underlying116
  a46 := Tryd.isAgg116
  z46 := Tryd.sizeOf116
  v46 := Tryd.zeroValue116
  t51 := Tryd.underlying121
  a51 := Tryd.isAgg121
  z51 := Tryd.sizeOf121
  v51 := Tryd.zeroValue121
  t146 := Tryd.underlying122
  a146 := Tryd.isAgg122
  z146 := Tryd.sizeOf122
  v146 := Tryd.zeroValue122
  g1 := by kernel_rfl }
open Go.RowKit Go.Lib in
theorem Tryd.stringslite_Index (s sub : ByteArray) (m : Int) (w : World) (hs : s.size < 4294967281) (hm : w.cell? ⟨1, 0, none⟩ = some (.int .i64 m)) :
    Calls Tryd.prog 53 #[.string s, .string sub] w fun e w' => e = .returned (.int .i64 (Lib.index s.data.toList sub.data.toList)) ∧ w' = w := Any.stringslite_Index Tryd.lays219 s sub m w hs hm
def Tryd.laysM219_ren : Go.Shelf.Ren := ⟨fun | 219 => 53 | 217 => 52 | 225 => 62 | 224 => 63 | 267 => 64 | 266 => 61 | 314 => 69 | n => n, fun | 9 => 9 | 3 => 3 | 4 => 4 | 5 => 5 | 46 => 116 | 146 => 122 | 51 => 121 | n => n, fun | 1 => 1 | n => n⟩
theorem Tryd.laysM219 : Go.Proofs.LaysM.n219 Tryd.prog Tryd.laysM219_ren := {
  mixed := by kernel_rfl
  f217 := Tryd.func52.trans (congrArg some (by kernel_rfl))
  f219 := Tryd.func53.trans (congrArg some (by kernel_rfl))
  f224 := Tryd.func63.trans (congrArg some (by kernel_rfl))
  f225 := Tryd.func62.trans (congrArg some (by kernel_rfl))
  f266 := Tryd.func61.trans (congrArg some (by kernel_rfl))
  f267 := Tryd.func64.trans (congrArg some (by kernel_rfl))
  f314 := Tryd.func69.trans (congrArg some (by kernel_rfl))
  t3 := Tryd.underlying3
  a3 := Tryd.isAgg3
  z3 := Tryd.sizeOf3
  v3 := Tryd.zeroValue3
  t4 := Tryd.underlying4
  a4 := Tryd.isAgg4
  z4 := Tryd.sizeOf4
  v4 := Tryd.zeroValue4
  t5 := Tryd.underlying5
  a5 := Tryd.isAgg5
  z5 := Tryd.sizeOf5
  v5 := Tryd.zeroValue5
  t9 := Tryd.underlying9
  a9 := Tryd.isAgg9
  z9 := Tryd.sizeOf9
  v9 := Tryd.zeroValue9
  t46 := Tryd.underlying116
  a46 := Tryd.isAgg116
  z46 := Tryd.sizeOf116
  v46 := Tryd.zeroValue116
  t51 := Tryd.underlying121
  a51 := Tryd.isAgg121
  z51 := Tryd.sizeOf121
  v51 := Tryd.zeroValue121
  t146 := Tryd.underlying122
  a146 := Tryd.isAgg122
  z146 := Tryd.sizeOf122
  v146 := Tryd.zeroValue122
  g1 := by kernel_rfl
  i3 := by kernel_rfl
  i4 := by kernel_rfl
  i5 := by kernel_rfl
  i9 := by kernel_rfl
  i46 := by kernel_rfl
  i51 := by kernel_rfl
  i146 := by kernel_rfl
  m1 := by kernel_rfl
  s1_3 := fun w h => Go.Proofs.cell_of_shapedOpen_int (zero := #[.int .i64 0]) (t := 3) h (of_decide_eq_true (by kernel_rfl)) (by kernel_rfl) rfl (by kernel_rfl) (by kernel_rfl) Tryd.underlying3 }
end Go.Proofs

namespace Go.Proofs.YtoedpbjeangdhaaDoor.Ev
open Go Go.Ev
set_option linter.unusedVariables false
def tab : List (Nat × XK) := [(61, .indexByte), (74, .countByte), (47, .typeOf), (104, .rElem), (103, .rComparable), (105, .rImplements), (102, .rAssignable), (90, .aKind), (32, .valueOf), (33, .vType), (34, .vIsNil), (48, .vElem), (49, .vSet)]
def vars : List (Nat × Nat × V) := [(1, 0, .res .i64 1 0), (0, 0, .iface 97 (.agg [.gptr 4 44]))]
noncomputable def xb : XB := xbT Tryd.prog tab
theorem row61 : RowAt Tryd.prog 61 .indexByte Tryd.f61 := ⟨Tryd.func61, by kernel_rfl, by kernel_rfl, by kernel_rfl, fun h => by cases h⟩
theorem row74 : RowAt Tryd.prog 74 .countByte Tryd.f74 := ⟨Tryd.func74, by kernel_rfl, by kernel_rfl, by kernel_rfl, fun h => by cases h⟩
theorem row47 : RowAt Tryd.prog 47 .typeOf Tryd.f47 := ⟨Tryd.func47, by kernel_rfl, by kernel_rfl, by kernel_rfl, fun h => by cases h⟩
theorem row104 : RowAt Tryd.prog 104 .rElem Tryd.f104 := ⟨Tryd.func104, by kernel_rfl, by kernel_rfl, by kernel_rfl, fun h => by cases h⟩
theorem row103 : RowAt Tryd.prog 103 .rComparable Tryd.f103 := ⟨Tryd.func103, by kernel_rfl, by kernel_rfl, by kernel_rfl, fun h => by cases h⟩
theorem row105 : RowAt Tryd.prog 105 .rImplements Tryd.f105 := ⟨Tryd.func105, by kernel_rfl, by kernel_rfl, by kernel_rfl, fun h => by cases h⟩
theorem row102 : RowAt Tryd.prog 102 .rAssignable Tryd.f102 := ⟨Tryd.func102, by kernel_rfl, by kernel_rfl, by kernel_rfl, fun h => by cases h⟩
theorem row90 : RowAt Tryd.prog 90 .aKind Tryd.f90 := ⟨Tryd.func90, by kernel_rfl, by kernel_rfl, by kernel_rfl, fun h => by cases h⟩
theorem row32 : RowAt Tryd.prog 32 .valueOf Tryd.f32 := ⟨Tryd.func32, by kernel_rfl, by kernel_rfl, by kernel_rfl, fun h => by cases h⟩
theorem row33 : RowAt Tryd.prog 33 .vType Tryd.f33 := ⟨Tryd.func33, by kernel_rfl, by kernel_rfl, by kernel_rfl, fun h => by cases h⟩
theorem row34 : RowAt Tryd.prog 34 .vIsNil Tryd.f34 := ⟨Tryd.func34, by kernel_rfl, by kernel_rfl, by kernel_rfl, fun h => by cases h⟩
theorem row48 : RowAt Tryd.prog 48 .vElem Tryd.f48 := ⟨Tryd.func48, by kernel_rfl, by kernel_rfl, by kernel_rfl, fun h => by cases h⟩
theorem row49 : RowAt Tryd.prog 49 .vSet Tryd.f49 := ⟨Tryd.func49, by kernel_rfl, by kernel_rfl, by kernel_rfl, fun h => by cases h⟩
theorem xbOk : XBok Tryd.prog xb := xb_ok fun x hx => by
  simp only [tab, List.mem_cons, List.not_mem_nil, or_false] at hx
  rcases hx with rfl | rfl | rfl | rfl | rfl | rfl | rfl | rfl | rfl | rfl | rfl | rfl | rfl
  · exact ⟨_, row61⟩
  · exact ⟨_, row74⟩
  · exact ⟨_, row47⟩
  · exact ⟨_, row104⟩
  · exact ⟨_, row103⟩
  · exact ⟨_, row105⟩
  · exact ⟨_, row102⟩
  · exact ⟨_, row90⟩
  · exact ⟨_, row32⟩
  · exact ⟨_, row33⟩
  · exact ⟨_, row34⟩
  · exact ⟨_, row48⟩
  · exact ⟨_, row49⟩
noncomputable def ext0 : CallF := extIdx 53 1
theorem ext0Ok : CFok Tryd.prog ext0 := extIdx_ok fun s t k w h hm => Tryd.stringslite_Index s t k w h hm
theorem maxAt {W : World} (h : W.ShapedOpen Tryd.prog) : ∃ k, W.cell? ⟨1, 0, none⟩ = some (.int .i64 k) := Tryd.laysM219.s1_3 W h
theorem noNumB : (Tryd.prog.funcs.all fun fn => fn.body.isNone || !(fn.name == "runtime.NumGoroutine")) = true := by kernel_rfl
theorem noNum : NoNum Tryd.prog := fun f fn hf hb hn => by
  have := Array.all_eq_true'.1 noNumB fn (Array.mem_of_getElem? hf)
  rw [hn] at this
  cases h : fn.body with
  | none => rw [h] at hb; cases hb
  | some c => rw [h] at this; simp at this
theorem mixed : Tryd.prog.follows .mixedOrders = true := by kernel_rfl
theorem draws : DrawOkay Tryd.prog xb := drawOkay xbOk noNum mixed
theorem ok (ext : CallF) (h : CFok Tryd.prog ext) (n : Nat) : CFok Tryd.prog (funV Tryd.prog xb ext n) := funV_ok xbOk noNum draws h n
def memo0 : Nat × List V × Sl := (56, [.str 76 449953937865765044166353567075634855841265280582411279419178484766953766944035175598208298896301601961594016089577018897893736066317852013341495176030536989441380532204658237559960934, .str 1 32], ⟨9, [.str 3 7239014, .str 3 7628140, .str 3 6514034, .str 2 28265, .str 2 26217, .str 4 1852139636, .str 4 1702063205, .str 6 111516215828840, .str 4 1752459639, .str 6 121437875889522, .str 3 6581861, .str 2 28516, .str 2 28783, .str 4 1702195828, .str 5 435728179558, .str 3 7630441, .str 4 1819242338], 0, 17, 17, 1⟩)
theorem memo0_eval : slOk memo0.2.2 (funC Tryd.prog xb ext0 100000 memo0.1 memo0.2.1 (memOf vars) fun v m => some (v, m)) = true := by kernel_rfl
def memo1 : Nat × List V × Sl := (56, [.str 12 18608075407434323500137783339, .str 1 32], ⟨9, [.str 1 43, .str 1 45, .str 1 42, .str 1 47, .str 2 15677, .str 1 60], 0, 6, 6, 1⟩)
theorem memo1_eval : slOk memo1.2.2 (funC Tryd.prog xb ext0 100000 memo1.1 memo1.2.1 (memOf vars) fun v m => some (v, m)) = true := by kernel_rfl
def memo2 : Nat × List V × Sl := (44, [], ⟨9, [.str 4 1008745789, .str 3 2957355, .str 3 3088426], 0, 3, 3, 1⟩)
theorem memo2_eval : slOk memo2.2.2 (funC Tryd.prog xb ext0 100000 memo2.1 memo2.2.1 (memOf vars) fun v m => some (v, m)) = true := by kernel_rfl
def memos : List (Nat × List V × Sl) := [memo0, memo1, memo2]
noncomputable def ext1 : CallF := extTwo ext0 (extS vars memos)
theorem ext1Ok : CFok Tryd.prog ext1 := extTwo_ok ext0Ok <| extS_ok (ok _ ext0Ok 100000) fun x hx => by
  simp only [memos, List.mem_cons, List.not_mem_nil, or_false] at hx
  rcases hx with rfl | rfl | rfl
  · exact ⟨rfl, rfl, by rw [funV_of]; exact memo0_eval⟩
  · exact ⟨rfl, rfl, by rw [funV_of]; exact memo1_eval⟩
  · exact ⟨rfl, rfl, by rw [funV_of]; exact memo2_eval⟩
end Go.Proofs.YtoedpbjeangdhaaDoor.Ev

namespace Go.Ev
open Go
set_option linter.unusedVariables false
set_option linter.unusedSimpArgs false
noncomputable def blksV : Nat → List (Nat × List V) → T Blk
  | _, [] => .nil
  | i, (el, cs) :: r => (blksV (i + 1) r).set i (.cells ⟨i, cs.length, 0, el, 0, true, true, putL .nil 0 cs⟩)
noncomputable def famsV : Nat → List (Nat × List V) → T (List Nat)
  | _, [] => .nil
  | i, _ :: r => (famsV (i + 1) r).set i [i]
noncomputable def viewM (G : List (Nat × Nat × V)) (bs : List (Nat × List V)) : Mem := ⟨glL G, bs.length, blksV 0 bs, famsV 0 bs⟩
theorem blksV_get : ∀ (bs : List (Nat × List V)) (i b : Nat), (blksV i bs).get b = if i ≤ b then (bs[b - i]?).map (fun x => Blk.cells ⟨b, x.2.length, 0, x.1, 0, true, true, putL .nil 0 x.2⟩) else none := by
  intro bs
  induction bs with
  | nil => intro i b; simp [blksV, T.get_nil]
  | cons x r ih =>
    intro i b
    obtain ⟨el, cs⟩ := x
    simp only [blksV]
    rw [T.get_set, ih]
    by_cases hb : b = i
    · subst hb; simp
    · rw [if_neg hb]
      by_cases h1 : i + 1 ≤ b
      · rw [if_pos h1, if_pos (by omega)]
        congr 1
        obtain ⟨k, rfl⟩ : ∃ k, b = i + 1 + k := ⟨b - (i + 1), by omega⟩
        rw [show i + 1 + k - (i + 1) = k by omega, show i + 1 + k - i = k + 1 by omega]
        rfl
      · rw [if_neg h1, if_neg (by omega)]
theorem famsV_get : ∀ (bs : List (Nat × List V)) (i b : Nat), (famsV i bs).get b = if i ≤ b ∧ b - i < bs.length then some [b] else none := by
  intro bs
  induction bs with
  | nil => intro i b; simp [famsV, T.get_nil]
  | cons x r ih =>
    intro i b
    simp only [famsV]
    rw [T.get_set, ih]
    by_cases hb : b = i
    · subst hb; simp
    · rw [if_neg hb]
      by_cases h1 : i + 1 ≤ b ∧ b - (i + 1) < r.length
      · rw [if_pos h1, if_pos ⟨by omega, by simp; omega⟩]
      · rw [if_neg h1, if_neg (fun h => h1 ⟨by omega, by have := h.2; simp at this; omega⟩)]
theorem MR.view {G : List (Nat × Nat × V)} {bs : List (Nat × List V)} {w : World} (hG : ∀ g i v, glL G g i = some v → ∃ x, w.cell? ⟨g, i, none⟩ = some x ∧ Rel zeroS v x) (f : Nat → Option (Nat × Nat × Nat)) (hdom : ∀ b x, f b = some x → b < bs.length)
    (hcell : ∀ b x y, bs[b]? = some x → f b = some y → ∀ i v, x.2[i]? = some v → ∃ u, w.cell? ⟨y.1, y.2.1 + i, none⟩ = some u ∧ Rel ⟨f, 0⟩ v u) (hrng : ∀ b x, f b = some x → x.1 < w.heap.size) : MR w.heap.size (viewM G bs) ⟨f, 0⟩ w where
  lt := Nat.le_refl _
  dom := hdom
  bl b k cb o tt h hs := by
    have h1 := h.1
    show CellOk _ _ _ _ _ _ _
    unfold viewM at h1
    dsimp only at h1
    rw [blksV_get, if_pos (Nat.zero_le _), Nat.sub_zero] at h1
    cases hb : bs[b]? with
    | none => rw [hb] at h1; cases h1
    | some x =>
      rw [hb] at h1
      simp only [Option.map_some, Option.some.injEq, Blk.cells.injEq] at h1
      subst h1
      refine ⟨fun i v hi hv => ?_, fun h => by cases h⟩
      dsimp only at hi hv
      rw [putL_get, if_pos (by omega), Nat.sub_zero] at hv
      exact hcell b x _ hb hs i v hv
  mp r es h := by
    unfold viewM at h
    dsimp only at h
    rw [blksV_get, if_pos (Nat.zero_le _)] at h
    cases hb : bs[r - 0]? <;> rw [hb] at h <;> simp at h
  mps r r' es es' _ h := by
    unfold viewM at h
    dsimp only at h
    rw [blksV_get, if_pos (Nat.zero_le _)] at h
    cases hb : bs[r - 0]? <;> rw [hb] at h <;> simp at h
  fam b k h := by
    have h1 := h.1
    unfold viewM at h1
    dsimp only at h1
    rw [blksV_get, if_pos (Nat.zero_le _), Nat.sub_zero] at h1
    cases hb : bs[b]? with
    | none => rw [hb] at h1; cases h1
    | some x =>
      rw [hb] at h1
      simp only [Option.map_some, Option.some.injEq, Blk.cells.injEq] at h1
      subst h1
      have := (List.getElem?_eq_some_iff.1 hb).1
      refine ⟨[b], ?_, by simp⟩
      unfold viewM
      dsimp only
      rw [famsV_get, if_pos ⟨Nat.zero_le _, by omega⟩]
  chain f' ch h := by
    unfold viewM at h
    dsimp only at h
    rw [famsV_get] at h
    split at h
    · rename_i hc
      cases h
      have hlt : f' < bs.length := by omega
      refine ⟨by simp, fun b hb => ?_, by simp⟩
      simp at hb
      subst hb
      refine ⟨⟨b, (bs[b]).2.length, 0, (bs[b]).1, 0, true, true, putL .nil 0 (bs[b]).2⟩, ⟨?_, rfl⟩, rfl⟩
      unfold viewM
      dsimp only
      rw [blksV_get, if_pos (Nat.zero_le _), Nat.sub_zero, List.getElem?_eq_getElem hlt]
      rfl
    · cases h
  sep b b' k k' cb o o' tt tt' _ h h' _ _ := by
    refine .inl ⟨?_, ?_⟩
    · have h1 := h.1
      unfold viewM at h1
      dsimp only at h1
      rw [blksV_get, if_pos (Nat.zero_le _)] at h1
      cases hb : bs[b - 0]? with
      | none => rw [hb] at h1; cases h1
      | some x => rw [hb] at h1; simp only [Option.map_some, Option.some.injEq, Blk.cells.injEq] at h1; subst h1; rfl
    · have h1 := h'.1
      unfold viewM at h1
      dsimp only at h1
      rw [blksV_get, if_pos (Nat.zero_le _)] at h1
      cases hb : bs[b' - 0]? with
      | none => rw [hb] at h1; cases h1
      | some x => rw [hb] at h1; simp only [Option.map_some, Option.some.injEq, Blk.cells.injEq] at h1; subst h1; rfl
  new b hb := by
    have hb' : bs.length ≤ b := hb
    unfold viewM
    dsimp only
    rw [blksV_get, famsV_get, if_pos (Nat.zero_le _), if_neg (by omega), Nat.sub_zero, List.getElem?_eq_none hb']
    exact ⟨rfl, rfl⟩
  gl g i v h := by
    obtain ⟨x, h1, h2⟩ := hG g i v h
    refine ⟨?_, x, h1, h2⟩
    refine Classical.byContradiction fun hn => ?_
    have : w.heap[g]? = none := Array.getElem?_eq_none (by omega)
    simp [World.cell?, this] at h1
  rng := hrng
  nle := Nat.zero_le _
theorem view_ok {p : Program} {cf E : CallF} (hcf : CFok p cf) {G : List (Nat × Nat × V)} (hE : ∀ f args m v m', E f args m = some (v, m') → m' = m ∧ v.shut = true ∧ glOk G m = true ∧ ∃ bs args0 mr, cf f args0 (viewM G bs) = some (v, mr) ∧
    ∀ base σ w (us : Array Value), MR base m σ w → RelL σ args us.toList → ∃ g : Nat → Option (Nat × Nat × Nat), (∀ b x, g b = some x → b < bs.length) ∧ (∀ b x y, bs[b]? = some x → g b = some y → ∀ i v, x.2[i]? = some v → ∃ u, w.cell? ⟨y.1, y.2.1 + i, none⟩ = some u ∧ Rel ⟨g, 0⟩ v u) ∧ (∀ b x, g b = some x → x.1 < w.heap.size) ∧ RelL ⟨g, 0⟩ args0 us.toList) : CFok p E := by
  intro f args m v m' h base σ w us hM hr
  obtain ⟨rfl, hsh, hg, bs, args0, mr, h1, h2⟩ := hE f args m v m' h
  obtain ⟨g, d1, d2, d3, d4⟩ := h2 base σ w us hM hr
  have hV : MR w.heap.size (viewM G bs) ⟨g, 0⟩ w := MR.view (fun g i u hu => by
    have hmem := glL_mem hu
    unfold glOk at hg
    have := List.all_eq_true.1 hg _ hmem
    dsimp only at this
    split at this
    · rename_i u' hu'
      have := V.beq_eq _ _ this
      subst this
      exact (hM.gl g i u' hu').2
    · cases this) g d1 d2 d3
  refine (hcf f args0 _ v mr h1 w.heap.size _ w us hV d4).mono fun e w' he => ?_
  obtain ⟨x, σ', rfl, hR, hM', hT⟩ := he
  have hkeep : ∀ i, i < w.heap.size → w'.heap[i]? = w.heap[i]? := fun i hi => hT.keep i hi (.inl hi)
  exact ⟨x, σ, rfl, hR.shut hsh, hM.stay hT.size hkeep, ⟨σ.le_refl, fun b x h => .inl ⟨b, x, h, rfl⟩, hT.os, hT.tape, hT.output, hT.size, fun c hc _ => hkeep c hc, fun _ _ h => .inl h, rfl⟩⟩
noncomputable def extTold (G : List (Nat × Nat × V)) (told faultP errT wantP : Nat) : CallF := fun f args m => bif Nat.beq f told && glOk G m then (match args with
  | [.iface t (.ptr b 0)] => bif Nat.beq t faultP then (match m.cell b 0, m.cell b 1 with
    | some (.int .i64 a), some (.iface t1 (.int .i64 c)) => bif Nat.beq t1 errT then some (.tup [.int .i64 a, .int .i64 c], m) else none
    | some (.int .i64 a), some (.iface t1 (.ptr wb 0)) => bif Nat.beq t1 wantP then (match m.cell wb 0 with
      | some (.str l s) => some (.tup [.int .i64 a, .int .i64 403], m)
      | _ => none) else none
    | _, _ => none) else none
  | _ => none) else none
theorem cell_rel {base : Nat} {m : Mem} {σ : Sg} {w : World} (hM : MR base m σ w) {b i : Nat} {v : V} (h : m.cell b i = some v) {cb o tt : Nat} (hs : σ b = some (cb, o, tt)) : ∃ u, w.cell? ⟨cb, o + i, none⟩ = some u ∧ Rel σ v u := by
  unfold Mem.cell at h
  split at h
  · rename_i k hk
    simp only [bif_some, Nat.blt_eq] at h
    exact (hM.bl b k cb o tt ⟨hk, h.1⟩ hs).cell i v h.2.1 h.2.2
  · cases h
theorem extTold_ok {p : Program} {cf : CallF} (hcf : CFok p cf) {G : List (Nat × Nat × V)} {told faultP errT wantP faultT wantT : Nat} (h1 : ∀ a c, ∃ mr, cf told [.iface faultP (.ptr 0 0)] (viewM G [(faultT, [.int .i64 a, .iface errT (.int .i64 c)])]) = some (.tup [.int .i64 a, .int .i64 c], mr))
    (h2 : ∀ a l s, ∃ mr, cf told [.iface faultP (.ptr 0 0)] (viewM G [(faultT, [.int .i64 a, .iface wantP (.ptr 1 0)]), (wantT, [.str l s])]) = some (.tup [.int .i64 a, .int .i64 403], mr)) : CFok p (extTold G told faultP errT wantP) := by
  refine view_ok hcf (G := G) fun f args m v m' h => ?_
  unfold extTold at h
  simp only [bif_some, Bool.and_eq_true, Nat.beq_eq] at h
  obtain ⟨⟨rfl, hg⟩, h⟩ := h
  split at h
  case h_2 => cases h
  rename_i t b
  simp only [bif_some, Nat.beq_eq] at h
  obtain ⟨rfl, h⟩ := h
  split at h
  · rename_i a t1 c c0 c1
    simp only [bif_some, Nat.beq_eq, Option.some.injEq, Prod.mk.injEq] at h
    obtain ⟨rfl, rfl, rfl⟩ := h
    obtain ⟨mr, hmr⟩ := h1 a c
    refine ⟨rfl, rfl, hg, _, _, mr, hmr, fun base σ w us hM hr => ?_⟩
    obtain ⟨x, hx, hr1⟩ := hr.one
    cases hr1 with
    | iface t hp =>
    cases hp with
    | @ptr _ cb o tt _ hs =>
    obtain ⟨u0, e0, r0⟩ := cell_rel hM c0 hs
    obtain ⟨u1, e1, r1⟩ := cell_rel hM c1 hs
    refine ⟨fun q => if q = 0 then some (cb, o, tt) else none, fun q x hq => ?_, fun q x y hx hy i v hv => ?_, fun q x hq => ?_, ?_⟩
    · dsimp only at hq
      split at hq
      · simp; omega
      · cases hq
    · dsimp only at hy
      split at hy
      · rename_i hq
        subst hq
        cases hy
        simp at hx
        subst hx
        match i, hv with
        | 0, hv => simp at hv; subst hv; exact ⟨u0, e0, r0.shut rfl⟩
        | 1, hv => simp at hv; subst hv; exact ⟨u1, e1, r1.shut rfl⟩
      · cases hy
    · dsimp only at hq
      split at hq
      · cases hq; exact hM.rng b _ hs
      · cases hq
    · rw [hx]; exact .cons (.iface _ (.ptr 0 rfl)) (.nil _)
  · rename_i a t1 wb c0 c1
    simp only [bif_some, Nat.beq_eq] at h
    obtain ⟨rfl, h⟩ := h
    split at h
    case h_2 => cases h
    rename_i l s c2
    simp only [Option.some.injEq, Prod.mk.injEq] at h
    obtain ⟨rfl, rfl⟩ := h
    obtain ⟨mr, hmr⟩ := h2 a l s
    refine ⟨rfl, rfl, hg, _, _, mr, hmr, fun base σ w us hM hr => ?_⟩
    obtain ⟨x, hx, hr1⟩ := hr.one
    cases hr1 with
    | iface t hp =>
    cases hp with
    | @ptr _ cb o tt _ hs =>
    obtain ⟨u0, e0, r0⟩ := cell_rel hM c0 hs
    obtain ⟨u1, e1, r1⟩ := cell_rel hM c1 hs
    cases r1 with
    | iface _ r1 =>
    cases r1 with
    | @ptr _ cb2 o2 tt2 _ hs2 =>
    obtain ⟨u2, e2, r2⟩ := cell_rel hM c2 hs2
    refine ⟨fun q => if q = 0 then some (cb, o, tt) else if q = 1 then some (cb2, o2, tt2) else none, fun q x hq => ?_, fun q x y hx hy i v hv => ?_, fun q x hq => ?_, ?_⟩
    · dsimp only at hq
      split at hq
      · simp; omega
      · split at hq
        · simp; omega
        · cases hq
    · dsimp only at hy
      split at hy
      · rename_i hq
        subst hq
        cases hy
        simp at hx
        subst hx
        match i, hv with
        | 0, hv => simp at hv; subst hv; exact ⟨u0, e0, r0.shut rfl⟩
        | 1, hv => simp at hv; subst hv; exact ⟨_, e1, .iface _ (.ptr (o := o2) (tt := tt2) 0 rfl)⟩
      · split at hy
        · rename_i hq
          subst hq
          cases hy
          simp at hx
          subst hx
          match i, hv with
          | 0, hv => simp at hv; subst hv; exact ⟨u2, e2, r2.shut rfl⟩
        · cases hy
    · dsimp only at hq
      split at hq
      · cases hq; exact hM.rng b _ hs
      · split at hq
        · cases hq; exact hM.rng wb _ hs2
        · cases hq
    · rw [hx]; exact .cons (.iface _ (.ptr 0 rfl)) (.nil _)
  · cases h
end Go.Ev
namespace Go.Ev
open Go
theorem told_of {p : Program} {xb : XB} {ext : CallF} {n : Nat} {f : FuncId} {args : List V} {m m0 : Mem} {u : V} (h : (funC p xb ext n f args m fun v _ => some (v, m0)) = some (u, m0)) : ∃ m', funV p xb ext n f args m = some (u, m') := by
  rw [funC_eq] at h
  cases hf : funV p xb ext n f args m with
  | none => rw [hf] at h; cases h
  | some r =>
    rw [hf] at h
    obtain ⟨v, m'⟩ := r
    have : v = u := (Prod.mk.inj (Option.some.inj h)).1
    subst this
    exact ⟨m', rfl⟩
theorem extTwo_none {a b : CallF} {f : FuncId} {args : List V} {m : Mem} (h1 : a f args m = none) (h2 : b f args m = none) : extTwo a b f args m = none := by
  unfold extTwo; rw [h1]; exact h2
theorem extTwo_right {a b : CallF} {f : FuncId} {args : List V} {m : Mem} {r : Option (V × Mem)} (h1 : a f args m = none) (h2 : b f args m = r) : extTwo a b f args m = r := by
  unfold extTwo; rw [h1]; exact h2
theorem extTwo_left {a b : CallF} {f : FuncId} {args : List V} {m : Mem} {r : V × Mem} (h1 : a f args m = some r) : extTwo a b f args m = some r := by
  unfold extTwo; rw [h1]
theorem beqF {a b : Nat} (h : a ≠ b) : Nat.beq a b = false := by rw [← Bool.not_eq_true, Nat.beq_eq]; exact h
theorem extIdx_none {i g f : Nat} {args : List V} {m : Mem} (h : f ≠ i) : extIdx i g f args m = none := by
  unfold extIdx; rw [beqF h]; rfl
theorem extTold_none {G : List (Nat × Nat × V)} {t a b c f : Nat} {args : List V} {m : Mem} (h : f ≠ t) : extTold G t a b c f args m = none := by
  unfold extTold; rw [beqF h]; rfl
theorem extL_none {G : List (Nat × Nat × V)} {f : Nat} {args : List V} {m : Mem} : ∀ {L : List (Nat × List V × V)}, (∀ x, x ∈ L → x.1 ≠ f) → extL G L f args m = none := by
  intro L
  induction L with
  | nil => intro _; rfl
  | cons x L ih =>
    intro h
    obtain ⟨a, b, c⟩ := x
    simp only [extL]
    rw [beqF (h (a, b, c) (by simp))]
    exact ih fun y hy => h y (by simp [hy])
theorem extS_none {G : List (Nat × Nat × V)} {f : Nat} {args : List V} {m : Mem} : ∀ {L : List (Nat × List V × Sl)}, (∀ x, x ∈ L → x.1 ≠ f) → extS G L f args m = none := by
  intro L
  induction L with
  | nil => intro _; rfl
  | cons x L ih =>
    intro h
    obtain ⟨a, b, c⟩ := x
    simp only [extS]
    rw [beqF (h (a, b, c) (by simp))]
    exact ih fun y hy => h y (by simp [hy])
theorem extIdx_eval {i g : Nat} {la a lb b : Nat} {m : Mem} (hg : m.gl g 0 = some (.res .i64 1 0)) (hl : la < 4294967281) : extIdx i g i [.str la a, .str lb b] m = some (.int .i64 (findSub a la b lb (la + 1) 0), m) := by
  unfold extIdx
  rw [Nat.beq_refl, cond_true, hg]
  show (bif Nat.blt la 4294967281 then some (V.int .i64 (findSub a la b lb (la + 1) 0), m) else none) = _
  rw [show Nat.blt la 4294967281 = true by rw [Nat.blt_eq]; exact hl]
  rfl
end Go.Ev

namespace Go.Proofs.YtoedpbjeangdhaaDoor.Ev
open Go Go.Ev
set_option linter.unusedVariables false
set_option linter.unusedSimpArgs false
theorem con_0_0 : ∃ m', funV Tryd.prog xb ext1 100000 60 [.str 6 35442611010848, .str 3 2108192] (memOf vars) = some (.bool false, m') := told_of (m0 := memOf vars) (by kernel_rfl)
theorem con_0_1 : ∃ m', funV Tryd.prog xb ext1 100000 60 [.str 6 35442611010848, .str 3 2108704] (memOf vars) = some (.bool false, m') := told_of (m0 := memOf vars) (by kernel_rfl)
theorem con_0_2 : ∃ m', funV Tryd.prog xb ext1 100000 60 [.str 6 35442611010848, .str 3 2107936] (memOf vars) = some (.bool false, m') := told_of (m0 := memOf vars) (by kernel_rfl)
theorem con_0_3 : ∃ m', funV Tryd.prog xb ext1 100000 60 [.str 6 35442611010848, .str 3 2109216] (memOf vars) = some (.bool false, m') := told_of (m0 := memOf vars) (by kernel_rfl)
theorem con_0_4 : ∃ m', funV Tryd.prog xb ext1 100000 60 [.str 6 35442611010848, .str 4 540884256] (memOf vars) = some (.bool true, m') := told_of (m0 := memOf vars) (by kernel_rfl)
theorem con_0_5 : ∃ m', funV Tryd.prog xb ext1 100000 60 [.str 6 35442611010848, .str 3 2112544] (memOf vars) = some (.bool true, m') := told_of (m0 := memOf vars) (by kernel_rfl)
theorem con_1_0 : ∃ m', funV Tryd.prog xb ext1 100000 60 [.str 5 138196036384, .str 3 2108192] (memOf vars) = some (.bool true, m') := told_of (m0 := memOf vars) (by kernel_rfl)
theorem con_1_1 : ∃ m', funV Tryd.prog xb ext1 100000 60 [.str 5 138196036384, .str 3 2108704] (memOf vars) = some (.bool true, m') := told_of (m0 := memOf vars) (by kernel_rfl)
theorem con_1_2 : ∃ m', funV Tryd.prog xb ext1 100000 60 [.str 5 138196036384, .str 3 2107936] (memOf vars) = some (.bool false, m') := told_of (m0 := memOf vars) (by kernel_rfl)
theorem con_1_3 : ∃ m', funV Tryd.prog xb ext1 100000 60 [.str 5 138196036384, .str 3 2109216] (memOf vars) = some (.bool false, m') := told_of (m0 := memOf vars) (by kernel_rfl)
theorem con_1_4 : ∃ m', funV Tryd.prog xb ext1 100000 60 [.str 5 138196036384, .str 4 540884256] (memOf vars) = some (.bool false, m') := told_of (m0 := memOf vars) (by kernel_rfl)
theorem con_1_5 : ∃ m', funV Tryd.prog xb ext1 100000 60 [.str 5 138196036384, .str 3 2112544] (memOf vars) = some (.bool false, m') := told_of (m0 := memOf vars) (by kernel_rfl)
theorem con_2_0 : ∃ m', funV Tryd.prog xb ext1 100000 60 [.str 5 138229590560, .str 3 2108192] (memOf vars) = some (.bool false, m') := told_of (m0 := memOf vars) (by kernel_rfl)
theorem con_2_1 : ∃ m', funV Tryd.prog xb ext1 100000 60 [.str 5 138229590560, .str 3 2108704] (memOf vars) = some (.bool false, m') := told_of (m0 := memOf vars) (by kernel_rfl)
theorem con_2_2 : ∃ m', funV Tryd.prog xb ext1 100000 60 [.str 5 138229590560, .str 3 2107936] (memOf vars) = some (.bool true, m') := told_of (m0 := memOf vars) (by kernel_rfl)
theorem con_2_3 : ∃ m', funV Tryd.prog xb ext1 100000 60 [.str 5 138229590560, .str 3 2109216] (memOf vars) = some (.bool true, m') := told_of (m0 := memOf vars) (by kernel_rfl)
theorem con_2_4 : ∃ m', funV Tryd.prog xb ext1 100000 60 [.str 5 138229590560, .str 4 540884256] (memOf vars) = some (.bool false, m') := told_of (m0 := memOf vars) (by kernel_rfl)
theorem con_2_5 : ∃ m', funV Tryd.prog xb ext1 100000 60 [.str 5 138229590560, .str 3 2112544] (memOf vars) = some (.bool false, m') := told_of (m0 := memOf vars) (by kernel_rfl)
theorem told_nil : ∃ m', funV Tryd.prog xb ext1 100000 16 [.nili] (memOf vars) = some (.tup [.int .i64 0, .int .i64 0], m') := told_of (m0 := memOf vars) (by kernel_rfl)
theorem told_err (a c : Int) : ∃ m', funV Tryd.prog xb ext1 100000 16 [.iface 63 (.ptr 0 0)] (viewM vars [(65, [.int .i64 a, .iface 27 (.int .i64 c)])]) = some (.tup [.int .i64 a, .int .i64 c], m') := told_of (m0 := memOf vars) (by kernel_rfl)
theorem told_want (a : Int) (l s : Nat) : ∃ m', funV Tryd.prog xb ext1 100000 16 [.iface 63 (.ptr 0 0)] (viewM vars [(65, [.int .i64 a, .iface 52 (.ptr 1 0)]), (54, [.str l s])]) = some (.tup [.int .i64 a, .int .i64 403], m') := told_of (m0 := memOf vars) (by kernel_rfl)
theorem awake_par : yes (funC Tryd.prog xb ext1 100000 5 [] (memOf vars) fun v m => some (v, m)) = true := by kernel_rfl
def told3 : List (Nat × List V × V) := [(60, [.str 6 35442611010848, .str 3 2108192], .bool false), (60, [.str 6 35442611010848, .str 3 2108704], .bool false), (60, [.str 6 35442611010848, .str 3 2107936], .bool false), (60, [.str 6 35442611010848, .str 3 2109216], .bool false), (60, [.str 6 35442611010848, .str 4 540884256], .bool true), (60, [.str 6 35442611010848, .str 3 2112544], .bool true), (60, [.str 5 138196036384, .str 3 2108192], .bool true), (60, [.str 5 138196036384, .str 3 2108704], .bool true), (60, [.str 5 138196036384, .str 3 2107936], .bool false), (60, [.str 5 138196036384, .str 3 2109216], .bool false), (60, [.str 5 138196036384, .str 4 540884256], .bool false), (60, [.str 5 138196036384, .str 3 2112544], .bool false), (60, [.str 5 138229590560, .str 3 2108192], .bool false), (60, [.str 5 138229590560, .str 3 2108704], .bool false), (60, [.str 5 138229590560, .str 3 2107936], .bool true), (60, [.str 5 138229590560, .str 3 2109216], .bool true), (60, [.str 5 138229590560, .str 4 540884256], .bool false), (60, [.str 5 138229590560, .str 3 2112544], .bool false), (16, [.nili], .tup [.int .i64 0, .int .i64 0]), (5, [], .bool true)]
noncomputable def extT : CallF := extTold vars 16 63 27 52
noncomputable def extP : CallF := extTwo extT (extTwo ext1 (extL vars told3))
theorem extPOk : CFok Tryd.prog extP := extTwo_ok (extTold_ok (ok _ ext1Ok 100000) told_err told_want) <| extTwo_ok ext1Ok <| extL_ok (ok _ ext1Ok 100000) fun x hx => by
  simp only [told3, List.mem_cons, List.not_mem_nil, or_false] at hx
  rcases hx with rfl | rfl | rfl | rfl | rfl | rfl | rfl | rfl | rfl | rfl | rfl | rfl | rfl | rfl | rfl | rfl | rfl | rfl | rfl | rfl
  · exact ⟨rfl, rfl, con_0_0⟩
  · exact ⟨rfl, rfl, con_0_1⟩
  · exact ⟨rfl, rfl, con_0_2⟩
  · exact ⟨rfl, rfl, con_0_3⟩
  · exact ⟨rfl, rfl, con_0_4⟩
  · exact ⟨rfl, rfl, con_0_5⟩
  · exact ⟨rfl, rfl, con_1_0⟩
  · exact ⟨rfl, rfl, con_1_1⟩
  · exact ⟨rfl, rfl, con_1_2⟩
  · exact ⟨rfl, rfl, con_1_3⟩
  · exact ⟨rfl, rfl, con_1_4⟩
  · exact ⟨rfl, rfl, con_1_5⟩
  · exact ⟨rfl, rfl, con_2_0⟩
  · exact ⟨rfl, rfl, con_2_1⟩
  · exact ⟨rfl, rfl, con_2_2⟩
  · exact ⟨rfl, rfl, con_2_3⟩
  · exact ⟨rfl, rfl, con_2_4⟩
  · exact ⟨rfl, rfl, con_2_5⟩
  · exact ⟨rfl, rfl, told_nil⟩
  · exact ⟨rfl, rfl, yes_spec (yes_of awake_par)⟩
theorem goodOk {m : Mem} (h : Sy.Good m.gl) : glOk vars m = true := by
  obtain ⟨g, a, b, c⟩ := m
  have h : g = glL Sy.syVars := h
  subst h
  exact (by kernel_rfl : glOk vars ⟨glL Sy.syVars, a, b, c⟩ = true)
theorem no_ext : ∀ (f : Nat) (a : List V) (m : Mem), f ∉ Sy.XS → extP f a m = none := fun f a m h => by
  simp only [Sy.XS, List.mem_cons, List.not_mem_nil, or_false, not_or] at h
  refine extTwo_none (extTold_none (by omega)) (extTwo_none ?_ (extL_none fun x hx => ?_))
  · refine extTwo_none (extIdx_none (by omega)) (extS_none fun x hx => ?_)
    simp only [memos, List.mem_cons, List.not_mem_nil, or_false] at hx
    rcases hx with rfl | rfl | rfl
    all_goals (first | (show 56 ≠ f; omega) | (show 44 ≠ f; omega))
  · simp only [told3, List.mem_cons, List.not_mem_nil, or_false] at hx
    rcases hx with rfl | rfl | rfl | rfl | rfl | rfl | rfl | rfl | rfl | rfl | rfl | rfl | rfl | rfl | rfl | rfl | rfl | rfl | rfl | rfl
    all_goals (first | (show 60 ≠ f; omega) | (show 16 ≠ f; omega) | (show 5 ≠ f; omega))
theorem grow3 {m : Mem} {el : Nat} {cs : List V} : ∀ (j : Nat) (v : V), cs[j]? = some v → (m.newU el cs cs.length).2.cell m.next j = some v := fun j v h => (Grow.first m el cs).1.cell h
theorem xh : Sy.XH extP where
  no := no_ext
  lev m hg := by
    obtain ⟨g, a, b, c⟩ := m
    have hg : g = glL Sy.syVars := hg
    subst hg
    refine ⟨_, _, (by kernel_rfl : extP 44 [] ⟨glL Sy.syVars, a, b, c⟩ = some (.sl a 0 3 3 1, ((⟨glL Sy.syVars, a, b, c⟩ : Mem).newU 9 [.str 4 1008745789, .str 3 2957355, .str 3 3088426] 3).2)), (Grow.first _ _ _).2.1, fun l hl => ?_⟩
    rcases (show l = 0 ∨ l = 1 ∨ l = 2 by omega) with rfl | rfl | rfl
    all_goals exact grow3 _ _ (show _ = _ by kernel_rfl)
  pri m hg := by
    obtain ⟨g, a, b, c⟩ := m
    have hg : g = glL Sy.syVars := hg
    subst hg
    refine ⟨_, _, (by kernel_rfl : extP 56 [Go.Ev.vs (txt [43, 32, 45, 32, 42, 32, 47, 32, 61, 61, 32, 60]), Go.Ev.vs (txt [32])] ⟨glL Sy.syVars, a, b, c⟩ = some (.sl a 0 6 6 1, ((⟨glL Sy.syVars, a, b, c⟩ : Mem).newU 9 [.str 1 43, .str 1 45, .str 1 42, .str 1 47, .str 2 15677, .str 1 60] 6).2)), (Grow.first _ _ _).2.1, ?_, fun l hl => ?_⟩
    · exact Nat.lt_succ_self a
    rcases (show l = 0 ∨ l = 1 ∨ l = 2 ∨ l = 3 ∨ l = 4 ∨ l = 5 by omega) with rfl | rfl | rfl | rfl | rfl | rfl
    all_goals exact grow3 _ _ (show _ = _ by kernel_rfl)
  con m l j hg hl hj := by
    obtain ⟨g, a, b, c⟩ := m
    have hg : g = glL Sy.syVars := hg
    subst hg
    rcases (show l = 0 ∨ l = 1 ∨ l = 2 by omega) with rfl | rfl | rfl <;> rcases (show j = 0 ∨ j = 1 ∨ j = 2 ∨ j = 3 ∨ j = 4 ∨ j = 5 by omega) with rfl | rfl | rfl | rfl | rfl | rfl
    all_goals exact (show _ = _ by kernel_rfl)
theorem lh : Sy.LH xb extP where
  no := no_ext
  idx l m hg hl := by
    obtain ⟨g, a, b, c⟩ := m
    have hg : g = glL Sy.syVars := hg
    subst hg
    refine ⟨_, extTwo_right (extTold_none (by decide)) (extTwo_left (extTwo_left (extIdx_eval rfl (show l.length < 4294967281 by omega)))), ?_⟩
    have := findSub_eq (txt l) (txt [10]) (l.length + 1) 0 (by rw [txt_len]; omega) (fun j hj => absurd hj (by omega))
    exact Sy.index10 l (this.symm ▸ rfl)
  kws m hg := by
    obtain ⟨g, a, b, c⟩ := m
    have hg : g = glL Sy.syVars := hg
    subst hg
    refine ⟨_, _, (by kernel_rfl : extP 56 [Go.Ev.vs (txt Sy.keywordsL), Go.Ev.vs (txt [32])] ⟨glL Sy.syVars, a, b, c⟩ = some (.sl a 0 17 17 1, ((⟨glL Sy.syVars, a, b, c⟩ : Mem).newU 9 [.str 3 7239014, .str 3 7628140, .str 3 6514034, .str 2 28265, .str 2 26217, .str 4 1852139636, .str 4 1702063205, .str 6 111516215828840, .str 4 1752459639, .str 6 121437875889522, .str 3 6581861, .str 2 28516, .str 2 28783, .str 4 1702195828, .str 5 435728179558, .str 3 7630441, .str 4 1819242338] 17).2)), (Grow.first _ _ _).2.1, ?_, fun j k hj => ?_⟩
    · exact Nat.lt_succ_self a
    have hj17 : j < 17 := (List.getElem?_eq_some_iff.1 hj).1
    refine grow3 _ _ ?_
    rcases (show j = 0 ∨ j = 1 ∨ j = 2 ∨ j = 3 ∨ j = 4 ∨ j = 5 ∨ j = 6 ∨ j = 7 ∨ j = 8 ∨ j = 9 ∨ j = 10 ∨ j = 11 ∨ j = 12 ∨ j = 13 ∨ j = 14 ∨ j = 15 ∨ j = 16 by omega) with rfl | rfl | rfl | rfl | rfl | rfl | rfl | rfl | rfl | rfl | rfl | rfl | rfl | rfl | rfl | rfl | rfl
    all_goals (cases (Option.some.inj hj).symm; exact (show _ = _ by kernel_rfl))
  toldN m hg := by
    obtain ⟨g, a, b, c⟩ := m
    have hg : g = glL Sy.syVars := hg
    subst hg
    exact (by kernel_rfl : extP 16 [.nili] ⟨glL Sy.syVars, a, b, c⟩ = some (.tup [.int .i64 0, .int .i64 0], ⟨glL Sy.syVars, a, b, c⟩))
  toldE m fb a c hg hb := by
    have h0 := hb.cell (i := 0) rfl
    have h1 := hb.cell (i := 1) rfl
    refine extTwo_left ?_
    unfold extT extTold
    rw [goodOk hg]
    simp only [h0, h1, Nat.beq_refl, Bool.and_self, cond_true]
  toldW m fb wb a s hg hb hw := by
    have h0 := hb.cell (i := 0) rfl
    have h1 := hb.cell (i := 1) rfl
    have h2 := hw.cell (i := 0) rfl
    unfold Go.Ev.vs at h2
    refine extTwo_left ?_
    unfold extT extTold
    rw [goodOk hg]
    simp only [h0, h1, h2, Nat.beq_refl, Bool.and_self, cond_true]
  xi l c m := by
    have hc := c.toNat_lt
    show (bif Nat.blt c.toNat 256 then some (V.int .i64 (findByte (bytesOf (txt l)) c.toNat (txt l).size 0), m) else none) = _
    rw [show Nat.blt c.toNat 256 = true by rw [Nat.blt_eq]; exact hc]
    rfl
theorem awP : ∀ m, Sy.Good m.gl → extP 5 [] m = some (.bool true, m) := fun m hg => by
  obtain ⟨g, a, b, c⟩ := m
  have hg : g = glL Sy.syVars := hg
  subst hg
  exact (by kernel_rfl : extP 5 [] ⟨glL Sy.syVars, a, b, c⟩ = some (.bool true, ⟨glL Sy.syVars, a, b, c⟩))
theorem memOf_good : Sy.Good (memOf vars).gl := rfl
theorem memOf_new : New (memOf vars) := fun b _ => rfl
theorem varsAtP {W : World} (hG : Err.ErrTy W) (hS : W.ShapedOpen Tryd.prog) : ∀ g i v, glL vars g i = some v → ∃ x, W.cell? ⟨g, i, none⟩ = some x ∧ Rel zeroS v x := fun g i v h => by
  have := glL_mem h
  unfold vars at this
  rcases List.mem_cons.1 this with h1 | h1
  · cases h1
    obtain ⟨k, hk⟩ := maxAt hS
    exact ⟨_, hk, .res _ _ _ k (Nat.mod_one _) (fun h => by cases h)⟩
  · rw [List.mem_singleton] at h1
    cases h1
    exact ⟨_, hG, .iface _ (Rel.aggL.2 (.cons (.gptr _ _) (.nil _)))⟩
theorem calls_par {f : Nat} {args : List V} {m' : Mem} (h : Ev Tryd.prog xb extP f args (memOf vars) (.bool true) m') {us : Array Value} {W : World} (hG : Err.ErrTy W) (hS : W.ShapedOpen Tryd.prog) (hr : RelL zeroS args us.toList) :
    Calls Tryd.prog f us W fun e W' => e = .returned (.bool true) ∧ RowKit.Below W.heap.size W W' := by
  obtain ⟨n, hn⟩ := h
  refine (calls_of (ok extP extPOk n) (hn n (Nat.le_refl _)) rfl (varsAtP hG hS) hr).mono fun e w' ⟨⟨x, he, hR⟩, hb⟩ => ?_
  cases hR
  exact ⟨he, hb⟩
end Go.Proofs.YtoedpbjeangdhaaDoor.Ev

namespace Go.Proofs.YtoedpbjeangdhaaDoor.Ev
open Go Go.Ev
set_option linter.unusedVariables false
theorem calls_ParseMany (a0 : Int) (W : World) (hG : Err.ErrTy W) (hS : W.ShapedOpen Tryd.prog) : Calls Tryd.prog 4 #[.int .i64 a0] W fun e W' => e = .returned (.bool true) ∧ RowKit.Below W.heap.size W W' := by
  obtain ⟨v, m', h, rfl⟩ := Sy.many_walk lh xh awP memOf_new memOf_good ((a0 % 18446744073709551616).toNat % 128) (Nat.mod_lt _ (by decide))
  exact calls_par h (us := #[.int .i64 a0]) hG hS (.cons (.res _ _ _ a0 rfl (fun h => by cases h)) (.nil _))
end Go.Proofs.YtoedpbjeangdhaaDoor.Ev
