/- Several texts in one: contracts of functions of the program, and what they lean on. In part written by a program of this session over the kit's print, in part by hand. -/
import Derived.Test.YtoedpbjeangdhaaDoorYParseDeep10
import Derived.Shelf.Small.Strs
import Derived.Shelf.Utf8.RuneCount
import Derived.Shelf.Strings.Search1
import Derived.Shelf.Strings.Search2
import Derived.Shelf.Strings.Search3
import Derived.Shelf.Strings.Cut
import Derived.Shelf.Strings.Count
import Derived.Shelf.LaysM
import Derived.Shelf.Strings.Shaped
import Derived.Shelf.Strings.Prefix
import Derived.Shelf.Strings.Split
import Derived.Shelf.Strings.SplitShaped
import Derived.Shelf.Unicode.Decode
import Derived.Shelf.Strings.RuneCount
import Derived.Shelf.Strings.Explode
import Derived.Shelf.Unicode.DecodeSlow
import Derived.Shelf.Unicode.DecodeAny
import Derived.Shelf.Slices.Turned
import Derived.Test.YtoedpbjeangdhaaDoorProg
import Derived.Test.YtoedpbjeangdhaaDoorYParseDeep4
import Derived.Test.YtoedpbjeangdhaaDoorTie
namespace Go.Proofs.YtoedpbjeangdhaaDoor.Sy
open Go Go.Ev Go.Ev.Pm Go.Ev.Lm
set_option linter.unusedVariables false
set_option linter.unusedSimpArgs false
set_option linter.unusedSectionVars false
theorem flat_get {α : Type} {k : Nat} {f : α → List V} (hf : ∀ t, (f t).length = k) : ∀ (ts : List α) (i : Nat) (t : α) (j : Nat), ts[i]? = some t → j < k → (ts.flatMap f)[i * k + j]? = (f t)[j]? := by
  intro ts
  induction ts with
  | nil => intro i t j h; simp at h
  | cons a r ih =>
    intro i t j h hj
    rw [List.flatMap_cons]
    cases i with
    | zero =>
      simp at h
      subst h
      rw [List.getElem?_append_left (by rw [hf]; omega)]
      simp
    | succ i =>
      rw [List.getElem?_append_right (by rw [hf, Nat.add_mul]; omega)]
      have := ih i t j (by simpa using h) hj
      rw [hf, ← this]
      congr 1
      rw [Nat.add_mul]; omega
theorem tokR_of {m : Mem} {own own' : Nat → Prop} {tv : V} {ts : List Tk} (h : RowR m own 60 4 tv (ts.flatMap tkC) ts.length) (hd : ∀ x, x < m.next → ¬ own' x) : TokR m own' tv ts := by
  generalize hn : ts.length = n at h
  generalize hc : ts.flatMap tkC = cs at h
  cases h with
  | nil =>
    have : ts = [] := List.eq_nil_of_length_eq_zero hn
    subst this
    exact .nil
  | sl q n cs hg hl =>
    refine .sl q 0 _ _ ts hn.symm (fun i t ht => ?_) (Nat.le_refl _) (hd q hg.lt) hg.lt ?_
    · have key : ∀ j, j < 4 → cs[i * 4 + j]? = (tkC t)[j]? := fun j hj => by rw [← hc]; exact flat_get (k := 4) (fun _ => rfl) ts i t j ht hj
      exact ⟨hg.cell (by rw [Nat.zero_add]; exact key 0 (by omega)), hg.cell (by rw [Nat.zero_add]; exact key 1 (by omega)), hg.cell (by rw [Nat.zero_add]; exact key 2 (by omega)), hg.cell (by rw [Nat.zero_add]; exact key 3 (by omega))⟩
    · obtain ⟨f, tot, c, post, h1, _⟩ := hg.blk
      unfold elOf; rw [h1]
theorem RowR.form {m : Mem} {own : Nat → Prop} {el sz n : Nat} {v : V} {cs : List V} (h : RowR m own el sz v cs n) : v = .nils ∨ ∃ q, v = .sl q 0 n n sz := by
  cases h with
  | nil => exact .inl rfl
  | sl q n cs hg hl => exact .inr ⟨q, rfl⟩
theorem RowR.nil0 {m : Mem} {own : Nat → Prop} {el sz n : Nat} {cs : List V} (h : RowR m own el sz .nils cs n) : n = 0 := by
  generalize hv : V.nils = v at h
  cases h with
  | nil => rfl
  | sl q n cs hg hl => cases hv
def parseL (l : List UInt8) : PR := match lexT l with
  | .err a _ => .err a 400
  | .ok ts => parseM l.length ts
structure ProgO (m m' : Mem) (ov nv : V) (ops : List Od) (ns : List Nd) : Prop where
  ex : ∃ oO oN, RowR m' oO 35 3 ov (ops.flatMap odC) ops.length ∧ RowR m' oN 38 10 nv (ns.flatMap ndC) ns.length ∧ (∀ x, oO x → m.next ≤ x) ∧ (∀ x, oN x → m.next ≤ x) ∧ (∀ x, oN x → ¬ oO x) ∧ (∀ x, oN x → x < m'.next) ∧ ∀ x, oO x → x < m'.next
  nl : ns.length ≤ 512
  ol : ops.length ≤ 4
theorem frame_out {m m' : Mem} {pb : Nat} (f : Fr (own pb F0 F0) m m') (h : m.next ≤ pb) : Fr F0 m m' := ⟨f.nw, f.gl, f.le, fun q hq _ => f.eq q hq (by
  rintro (h1 | h1 | h1)
  · omega
  · exact h1
  · exact h1)⟩
theorem own_new {m : Mem} {pb : Nat} {bN bO : Nat → Prop} (s : Sub m (own pb F0 F0) (own pb bN bO)) (h : m.next ≤ pb) {x : Nat} (k : own pb bN bO x) : m.next ≤ x := by
  refine Nat.le_of_not_lt fun hx => ?_
  rcases s x hx k with h1 | h1 | h1
  · omega
  · exact h1
  · exact h1
section
variable {m m' : Mem} {E : Int} {pb : Nat} {oN oO : Nat → Prop} {P P' : PS} {xb : XB} {ext : CallF} (hL : LH xb ext) (hX : XH ext)
theorem told_ev (hg : Good m.gl) {own : Nat → Prop} {ev : V} {c a : Int} (hr : ErrR m own ev (some (c, a))) (hL : LH xb ext) : ext 16 [ev] m = some (.tup [.int .i64 a, .int .i64 c], m) := by
  cases hr with
  | errno fb c a h hn => exact hL.toldE _ _ _ _ hg h
  | want fb wb s a h hw hn hv => exact hL.toldW _ _ _ _ _ hg h hw
include hL hX
set_option maxHeartbeats 2000000 in
theorem parse_spec (hN : New m) (hg : Good m.gl) (l : List UInt8) : ∃ v m', Ev Tryd.prog xb ext 6 [vs (txt l)] m v m' ∧ (Fr F0 m m' ∧ match parseL l with
    | .err a c => v = .tup [.agg [.nils, .nils], .int .i64 a, .int .i64 c]
    | .ok ops ns => ∃ ov nv, v = .tup [.agg [ov, nv], .int .i64 0, .int .i64 0] ∧ ProgO m m' ov nv ops ns) := by
  unfold parseL
  cases hT : lexT l with
  | err a c =>
    dsimp only
    refine ev_of (fun m => hL.no _ _ m (by decide)) Tryd.func6 rfl rfl ?_
    have hc0 : c ≠ 0 := lexT_err hT
    refine wc_seq ?_
    refine wc_region ?_
    refine wo_alloc rfl rfl rfl rfl ?_
    intro g1 m1 o1 f1 l1
    have a1 := o1
    have fa := f1
    refine wo_n rfl (nv_assign rfl rfl) rfl rfl ?_
    refine wo_n rfl (nv_assign rfl rfl) rfl rfl ?_
    refine wo_nil ?_
    refine thenW_n ?_
    refine wc_seq ?_
    refine wc_region ?_
    refine wo_n rfl (nv_move rfl rfl) rfl rfl ?_
    obtain ⟨v, mt, hv, ft, hr⟩ := Tokens_spec (m := m1) hL (fa.nw hN) (by rw [fa.gl]; exact hg) l
    rw [hT] at hr
    subst hr
    have a2 := a1.fr ft (fun h => h)
    refine wo_call rfl rfl (by kernel_rfl) (hv) rfl rfl ?_
    refine wo_n rfl (nv_move rfl rfl) rfl rfl ?_
    refine wo_n rfl (nv_ex rfl rfl rfl) rfl rfl ?_
    refine wo_n rfl (nv_ex rfl rfl rfl) rfl rfl ?_
    refine wo_n rfl (nv_ex rfl rfl rfl) rfl rfl ?_
    refine wo_n rfl (nv_assign rfl rfl) rfl rfl ?_
    refine wo_n rfl (nv_assign rfl rfl) rfl rfl ?_
    refine wo_n rfl (nv_assign rfl rfl) rfl rfl ?_
    refine wo_nil ?_
    refine thenW_n ?_
    refine wc_seq ?_
    refine wc_seq ?_
    refine wc_region ?_
    refine wo_n rfl (nv_move rfl rfl) rfl rfl ?_
    refine wo_n rfl (nv_neqT rfl rfl rfl (by first | assumption | decide | omega)) rfl rfl ?_
    refine wo_nil ?_
    refine thenW_n ?_
    refine wc_true rfl ?_
    refine wc_seq ?_
    refine wc_region ?_
    refine wo_n rfl (nv_buildS rfl rfl rfl) rfl rfl ?_
    refine wo_n rfl (nv_move rfl rfl) rfl rfl ?_
    refine wo_store rfl rfl rfl rfl (by assumption) rfl rfl (Nat.le_of_ble_eq_true rfl) rfl ?_
    intro m2 o2 f2 n2
    have x9 := o2.rowAll (n := 2) rfl
    have f9 := f2
    refine wo_n rfl (nv_assign rfl rfl) rfl rfl ?_
    refine wo_n rfl (nv_assign rfl rfl) rfl rfl ?_
    refine wo_nil ?_
    refine thenW_n ?_
    refine wc_ret ?_
    refine thenW_r ?_
    refine endW_many (by intro i hi; cases hi) rfl (rs := [.cell 2 26, .tmp 3, .tmp 4]) (.cell rfl (by assumption) (.tmp rfl (.tmp rfl .nil))) (by simp) ?_
    exact ⟨fr_new (fa.trans ft (fun _ _ h => h)) f9 a2 l1, rfl⟩
  | ok ts =>
    dsimp only
    refine ev_of (fun m => hL.no _ _ m (by decide)) Tryd.func6 rfl rfl ?_
    refine wc_seq ?_
    refine wc_region ?_
    refine wo_alloc rfl rfl rfl rfl ?_
    intro g1 m1 o1 f1 l1
    have a1 := o1
    have fa := f1
    refine wo_n rfl (nv_assign rfl rfl) rfl rfl ?_
    refine wo_n rfl (nv_assign rfl rfl) rfl rfl ?_
    refine wo_nil ?_
    refine thenW_n ?_
    refine wc_seq ?_
    refine wc_region ?_
    refine wo_n rfl (nv_move rfl rfl) rfl rfl ?_
    obtain ⟨v, mt, hv, ft, hr⟩ := Tokens_spec (m := m1) hL (fa.nw hN) (by rw [fa.gl]; exact hg) l
    rw [hT] at hr
    obtain ⟨tv, rfl, ow, htk, how⟩ := hr
    have a2 := a1.fr ft (fun h => h)
    have htv := RowR.form htk
    rcases htv with rfl | ⟨qq, rfl⟩
    all_goals
      refine wo_call rfl rfl (by kernel_rfl) (hv) rfl rfl ?_
      refine wo_n rfl (nv_move rfl rfl) rfl rfl ?_
      refine wo_n rfl (nv_ex rfl rfl rfl) rfl rfl ?_
      refine wo_n rfl (nv_ex rfl rfl rfl) rfl rfl ?_
      refine wo_n rfl (nv_ex rfl rfl rfl) rfl rfl ?_
      refine wo_n rfl (nv_assign rfl rfl) rfl rfl ?_
      refine wo_n rfl (nv_assign rfl rfl) rfl rfl ?_
      refine wo_n rfl (nv_assign rfl rfl) rfl rfl ?_
      refine wo_nil ?_
      refine thenW_n ?_
      refine wc_seq ?_
      refine wc_seq ?_
      refine wc_region ?_
      refine wo_n rfl (nv_move rfl rfl) rfl rfl ?_
      refine wo_n rfl (nv_neqF rfl rfl rfl (by first | assumption | decide | omega)) rfl rfl ?_
      refine wo_nil ?_
      refine thenW_n ?_
      refine wc_false rfl ?_
      refine wc_skip ?_
      refine thenW_n ?_
      refine wc_seq ?_
      refine wc_region ?_
      refine wo_n rfl (nv_move rfl rfl) rfl rfl ?_
      refine wo_n rfl (nv_move rfl rfl) rfl rfl ?_
      first
        | refine wo_n rfl (nv_lenL rfl rfl rfl) rfl rfl ?_
        | refine wo_n rfl (nv_lenT rfl rfl rfl) rfl rfl ?_
      refine wo_n rfl (nv_buildS rfl rfl rfl) rfl rfl ?_
      refine wo_box rfl rfl rfl rfl rfl ?_
      intro g2 m2 o2 f2 l2
      have a3 := o2
      have fb := f2
      have lb := l2
      refine wo_n rfl (nv_assign rfl rfl) rfl rfl ?_
      refine wo_nil ?_
      refine thenW_n ?_
      refine wc_seq ?_
      refine wc_block ?_
      have lb' : m.next ≤ g2 := by have h1 := fa.le; have h2 := ft.le; omega
      have hle1 := fa.le
      have hle2 := ft.le
      have htk2 := htk.fr fb (fun _ _ _ h => h)
      have hgb : g1 < mt.next := Nat.lt_of_lt_of_le a1.lt ft.le
      have htR : TokR m2 (own g2 F0 F0) _ ts := (tokR_of (own' := own g2 F0 F0) htk (fun x hx => by
        rintro (h | h | h)
        · omega
        · exact h
        · exact h)).fr fb (fun _ _ h => h.elim) (fun _ _ h => h)
      have hNb : New m2 := fb.nw (ft.nw (fa.nw hN))
      have hR : Rep m2 (l.length : Nat) g2 F0 F0 { toks := ts } := ⟨⟨_, .nils, .nils, .nili, ⟨a3, htR, .nil, .nil, .none⟩⟩, fun h => h, fun h => h, fun _ h => h.elim, by simp, by simp, (show (0 : Int) ≤ 0 by decide), (show (0 : Int) ≤ 40 by decide), hNb, fun _ h => h.elim, fun _ h => h.elim, by rw [fb.gl, ft.gl, fa.gl]; exact hg⟩
      have w0 : Wx m (l.length : Nat) g2 F0 F0 26 g1 [.nils, .nils] m2 { toks := ts } := ⟨a2.fr fb (fun h => h), ⟨F0, F0, hR, by
        rintro (h | h | h)
        · omega
        · exact h
        · exact h, fun _ _ h => h⟩, ((fa.trans ft (fun _ _ h => h)).trans fb (fun _ _ h => h)).mono (fun _ _ h => h.elim), l1⟩
      refine wc_loop (fun k e mj => ∃ P', ELe (envL [(0, vs (txt l)), (2, .ptr g1 0), (8, .ptr g2 0)]) e ∧ Wx m (l.length : Nat) g2 F0 F0 26 g1 [.nils, .nils] mj P' ∧ opsM (l.length : Nat) (ts.length + 1) { toks := ts } = opsM (l.length : Nat) k P' ∧ (P'.toks.length < k ∨ is P' kop = false) ∧ P'.toks.length ≤ ts.length) (ts.length + 1) ⟨{ toks := ts }, ?_, w0, rfl, .inl (Nat.lt_succ_self _), Nat.le_refl _⟩ ?_
      · exact .cons rfl (.cons rfl (.cons rfl (.nil _)))
      rintro k e mj ⟨P', he, w, heq, hk, hle⟩
      refine Wc.weak ?_ he
      clear he
      obtain ⟨aN, aO, r, hn, s⟩ := w.p
      have his := is_spec (xb := xb) hX.no r kop
      cases hop : is P' kop with
      | true =>
        rw [hop] at his hk
        rcases hk with hk | hk
        · skip
          obtain ⟨k, rfl⟩ : ∃ j, k = j + 1 := ⟨k - 1, by omega⟩
          obtain ⟨mo, hho, w2, lo⟩ := w.call fun _ _ r => op_spec (xb := xb) hX r
          refine wc_seq ?_
          refine wc_seq ?_
          refine wc_region ?_
          refine wo_n rfl (nv_move rfl rfl) rfl rfl ?_
          refine wo_call rfl rfl (by kernel_rfl) (his) rfl rfl ?_
          refine wo_nil ?_
          refine thenW_n ?_
          refine wc_true rfl ?_
          refine wc_skip ?_
          refine thenW_n ?_
          refine wc_block ?_
          refine wc_region ?_
          refine wo_n rfl (nv_move rfl rfl) rfl rfl ?_
          refine wo_call rfl rfl (by kernel_rfl) (hho) rfl rfl ?_
          refine wo_nil ?_
          refine blockW_n ?_
          refine ⟨k, Nat.lt_succ_self _, opM (l.length : Nat) P', .cons rfl (.cons rfl (.cons rfl (.nil _))), w2, ?_, ?_, Nat.le_trans (opM_le _).2 hle⟩
          · rw [heq]; simp only [opsM]; rw [if_pos hop]
          · rcases opM_lt (E := (l.length : Nat)) hop with h | h
            · left; omega
            · exact .inr h
        · cases hk
      | false =>
        rw [hop] at his
        have heq' : opsM (l.length : Nat) (ts.length + 1) { toks := ts } = P' := by
          rw [heq]
          cases k with
          | zero => rfl
          | succ k => simp only [opsM]; rw [hop]; rfl
        obtain ⟨⟨vi, Q⟩, hrun⟩ : ∃ r, run (l.length : Nat) (fuelOf ts) .inner P' = some r := Option.ne_none_iff_exists'.1 (run_fuel hle)
        have hPP : parseP (l.length : Nat) ts = endM (l.length : Nat) Q := by unfold parseP; rw [heq']; dsimp only; rw [hrun]
        obtain ⟨mi, hi, w2, li⟩ := w.call fun _ _ r => (spec_all (xb := xb) (pb := g2) hX (fuelOf ts)).inner r hrun
        obtain ⟨bN, bO, r2, hn2, s2⟩ := w2.p
        obtain ⟨nv, hnv, hNR⟩ := next_spec (xb := xb) hX.no r2
        cases hnx : next Q with
        | some t =>
          rw [hnx] at hNR
          obtain ⟨tb, tz, rfl, hA, hno, hbl⟩ := hNR
          have hE' : endM (l.length : Nat) Q = fail (l.length : Nat) 403 Q := by unfold endM; rw [hnx]
          obtain ⟨z, hz⟩ := fail_err (E := (l.length : Nat)) 403 Q
          obtain ⟨zc, za⟩ := z
          have hM : parseM (l.length : Nat) ts = .err za zc := by unfold parseM; rw [hPP, hE', hz]
          rw [hM]
          refine wc_seq ?_
          refine wc_seq ?_
          refine wc_region ?_
          refine wo_n rfl (nv_move rfl rfl) rfl rfl ?_
          refine wo_call rfl rfl (by kernel_rfl) (his) rfl rfl ?_
          refine wo_nil ?_
          refine thenW_n ?_
          refine wc_false rfl ?_
          refine wc_exit ?_
          refine thenW_x ?_
          refine blockW_x ?_
          refine thenW_n ?_
          refine wc_seq ?_
          refine wc_region ?_
          refine wo_n rfl (nv_move rfl rfl) rfl rfl ?_
          refine wo_call rfl rfl (by kernel_rfl) (hi) rfl rfl ?_
          refine wo_nil ?_
          refine thenW_n ?_
          refine wc_seq ?_
          refine wc_seq ?_
          refine wc_region ?_
          refine wo_n rfl (nv_move rfl rfl) rfl rfl ?_
          refine wo_call rfl rfl (by kernel_rfl) (hnv) rfl rfl ?_
          refine wo_n rfl (nv_neqP rfl rfl rfl) rfl rfl ?_
          refine wo_nil ?_
          refine thenW_n ?_
          refine wc_true rfl ?_
          refine wc_region ?_
          refine wo_n rfl (nv_move rfl rfl) rfl rfl ?_
          refine wo_n rfl (nv_buildS rfl rfl rfl) rfl rfl ?_
          refine wo_box rfl rfl rfl rfl rfl ?_
          intro g1 m1 o1 f1 l1
          have r4 := r2.alloc f1
          have hgn : ¬ own g2 bN bO g1 := fun hc => Nat.lt_irrefl _ (Nat.lt_of_lt_of_le (r2.lt hc) l1)
          obtain ⟨mf, hf, pf⟩ := fail_spec (xb := xb) hX.no r4 (.want g1 (txt [101, 110, 100]) o1 hgn)
          have w3 := w2.to hn2 s2 (.alloc r2 f1 pf)
          refine wo_n rfl (nv_mkI rfl rfl) rfl rfl ?_
          refine wo_call rfl rfl (by kernel_rfl) (hf) rfl rfl ?_
          obtain ⟨cN, cO, r5, hn5, s5⟩ := w3.p
          obtain ⟨tv5, ov5, nv5, t5, v5, hp5⟩ := r5.hasErr hz
          have c5 := hp5.obj.cell (i := 4) rfl
          have he5 := hp5.err
          rw [hz] at he5
          have ht5 := ev_ext (p := Tryd.prog) (xb := xb) (told_ev r5.gl he5 hL)
          have b5 := w3.b
          refine wo_nil ?_
          refine thenW_n ?_
          refine wc_seq ?_
          refine wc_seq ?_
          refine wc_region ?_
          refine wo_n rfl (nv_move rfl rfl) rfl rfl ?_
          refine wo_n rfl (nv_nil rfl rfl rfl) rfl rfl ?_
          refine wo_n rfl (nv_fa rfl rfl) rfl rfl ?_
          refine wo_m rfl (mv_load rfl rfl (by assumption)) rfl rfl ?_
          refine wo_n rfl (nv_neqI rfl rfl rfl) rfl rfl ?_
          refine wo_nil ?_
          refine thenW_n ?_
          refine wc_true rfl ?_
          refine wc_seq ?_
          refine wc_region ?_
          refine wo_n rfl (nv_move rfl rfl) rfl rfl ?_
          refine wo_n rfl (nv_nil rfl rfl rfl) rfl rfl ?_
          refine wo_n rfl (nv_fa rfl rfl) rfl rfl ?_
          refine wo_m rfl (mv_load rfl rfl (by assumption)) rfl rfl ?_
          refine wo_call rfl rfl (by kernel_rfl) (ht5) rfl rfl ?_
          refine wo_n rfl (nv_move rfl rfl) rfl rfl ?_
          refine wo_n rfl (nv_ex rfl rfl rfl) rfl rfl ?_
          refine wo_n rfl (nv_ex rfl rfl rfl) rfl rfl ?_
          refine wo_n rfl (nv_assign rfl rfl) rfl rfl ?_
          refine wo_n rfl (nv_assign rfl rfl) rfl rfl ?_
          refine wo_nil ?_
          refine thenW_n ?_
          refine wc_seq ?_
          refine wc_region ?_
          refine wo_n rfl (nv_buildS rfl rfl rfl) rfl rfl ?_
          refine wo_n rfl (nv_move rfl rfl) rfl rfl ?_
          refine wo_n rfl (nv_move rfl rfl) rfl rfl ?_
          refine wo_store rfl rfl rfl rfl (by assumption) rfl rfl (Nat.le_of_ble_eq_true rfl) rfl ?_
          intro m2 o2 f2 n2
          have x9 := o2.rowAll (n := 2) rfl
          have w4 := w3.store o2 f2
          refine wo_n rfl (nv_assign rfl rfl) rfl rfl ?_
          refine wo_n rfl (nv_assign rfl rfl) rfl rfl ?_
          refine wo_nil ?_
          refine thenW_n ?_
          refine wc_ret ?_
          refine thenW_r ?_
          refine endW_many (by intro i hi; cases hi) rfl (rs := [.cell 2 26, .tmp 3, .tmp 4]) (.cell rfl (by assumption) (.tmp rfl (.tmp rfl .nil))) (by simp) ?_
          exact ⟨frame_out w4.f lb', rfl⟩
        | none =>
          rw [hnx] at hNR
          cases hNR
          have hE' : endM (l.length : Nat) Q = Q := by unfold endM; rw [hnx]
          cases hz : Q.err with
          | some z =>
            obtain ⟨zc, za⟩ := z
            have hM : parseM (l.length : Nat) ts = .err za zc := by unfold parseM; rw [hPP, hE', hz]
            rw [hM]
            obtain ⟨tv5, ov5, nv5, t5, v5, hp5⟩ := r2.hasErr hz
            have c5 := hp5.obj.cell (i := 4) rfl
            have he5 := hp5.err
            rw [hz] at he5
            have ht5 := ev_ext (p := Tryd.prog) (xb := xb) (told_ev r2.gl he5 hL)
            have b5 := w2.b
            refine wc_seq ?_
            refine wc_seq ?_
            refine wc_region ?_
            refine wo_n rfl (nv_move rfl rfl) rfl rfl ?_
            refine wo_call rfl rfl (by kernel_rfl) (his) rfl rfl ?_
            refine wo_nil ?_
            refine thenW_n ?_
            refine wc_false rfl ?_
            refine wc_exit ?_
            refine thenW_x ?_
            refine blockW_x ?_
            refine thenW_n ?_
            refine wc_seq ?_
            refine wc_region ?_
            refine wo_n rfl (nv_move rfl rfl) rfl rfl ?_
            refine wo_call rfl rfl (by kernel_rfl) (hi) rfl rfl ?_
            refine wo_nil ?_
            refine thenW_n ?_
            refine wc_seq ?_
            refine wc_seq ?_
            refine wc_region ?_
            refine wo_n rfl (nv_move rfl rfl) rfl rfl ?_
            refine wo_call rfl rfl (by kernel_rfl) (hnv) rfl rfl ?_
            refine wo_n rfl (nv_neqQ rfl rfl rfl) rfl rfl ?_
            refine wo_nil ?_
            refine thenW_n ?_
            refine wc_false rfl ?_
            refine wc_skip ?_
            refine thenW_n ?_
            refine wc_seq ?_
            refine wc_seq ?_
            refine wc_region ?_
            refine wo_n rfl (nv_move rfl rfl) rfl rfl ?_
            refine wo_n rfl (nv_nil rfl rfl rfl) rfl rfl ?_
            refine wo_n rfl (nv_fa rfl rfl) rfl rfl ?_
            refine wo_m rfl (mv_load rfl rfl (by assumption)) rfl rfl ?_
            refine wo_n rfl (nv_neqI rfl rfl rfl) rfl rfl ?_
            refine wo_nil ?_
            refine thenW_n ?_
            refine wc_true rfl ?_
            refine wc_seq ?_
            refine wc_region ?_
            refine wo_n rfl (nv_move rfl rfl) rfl rfl ?_
            refine wo_n rfl (nv_nil rfl rfl rfl) rfl rfl ?_
            refine wo_n rfl (nv_fa rfl rfl) rfl rfl ?_
            refine wo_m rfl (mv_load rfl rfl (by assumption)) rfl rfl ?_
            refine wo_call rfl rfl (by kernel_rfl) (ht5) rfl rfl ?_
            refine wo_n rfl (nv_move rfl rfl) rfl rfl ?_
            refine wo_n rfl (nv_ex rfl rfl rfl) rfl rfl ?_
            refine wo_n rfl (nv_ex rfl rfl rfl) rfl rfl ?_
            refine wo_n rfl (nv_assign rfl rfl) rfl rfl ?_
            refine wo_n rfl (nv_assign rfl rfl) rfl rfl ?_
            refine wo_nil ?_
            refine thenW_n ?_
            refine wc_seq ?_
            refine wc_region ?_
            refine wo_n rfl (nv_buildS rfl rfl rfl) rfl rfl ?_
            refine wo_n rfl (nv_move rfl rfl) rfl rfl ?_
            refine wo_n rfl (nv_move rfl rfl) rfl rfl ?_
            refine wo_store rfl rfl rfl rfl (by assumption) rfl rfl (Nat.le_of_ble_eq_true rfl) rfl ?_
            intro m1 o1 f1 n1
            have x9 := o1.rowAll (n := 2) rfl
            have w4 := w2.store o1 f1
            refine wo_n rfl (nv_assign rfl rfl) rfl rfl ?_
            refine wo_n rfl (nv_assign rfl rfl) rfl rfl ?_
            refine wo_nil ?_
            refine thenW_n ?_
            refine wc_ret ?_
            refine thenW_r ?_
            refine endW_many (by intro i hi; cases hi) rfl (rs := [.cell 2 26, .tmp 3, .tmp 4]) (.cell rfl (by assumption) (.tmp rfl (.tmp rfl .nil))) (by simp) ?_
            exact ⟨frame_out w4.f lb', rfl⟩
          | none =>
            have hM : parseM (l.length : Nat) ts = .ok Q.ops Q.ns := by unfold parseM; rw [hPP, hE', hz]
            rw [hM]
            obtain ⟨tv5, ov5, nv5, hp5⟩ := r2.noErr hz
            have c5 := hp5.obj.cell (i := 4) rfl
            have c52 := hp5.obj.cell (i := 2) rfl
            have c53 := hp5.obj.cell (i := 3) rfl
            have b5 := w2.b
            have hro := hp5.ops
            have hrn := hp5.ns
            have hfo := RowR.form hro
            have hfn := RowR.form hrn
            rcases hfo with rfl | ⟨qo, rfl⟩ <;> rcases hfn with rfl | ⟨qn, rfl⟩
            all_goals
              refine wc_seq ?_
              refine wc_seq ?_
              refine wc_region ?_
              refine wo_n rfl (nv_move rfl rfl) rfl rfl ?_
              refine wo_call rfl rfl (by kernel_rfl) (his) rfl rfl ?_
              refine wo_nil ?_
              refine thenW_n ?_
              refine wc_false rfl ?_
              refine wc_exit ?_
              refine thenW_x ?_
              refine blockW_x ?_
              refine thenW_n ?_
              refine wc_seq ?_
              refine wc_region ?_
              refine wo_n rfl (nv_move rfl rfl) rfl rfl ?_
              refine wo_call rfl rfl (by kernel_rfl) (hi) rfl rfl ?_
              refine wo_nil ?_
              refine thenW_n ?_
              refine wc_seq ?_
              refine wc_seq ?_
              refine wc_region ?_
              refine wo_n rfl (nv_move rfl rfl) rfl rfl ?_
              refine wo_call rfl rfl (by kernel_rfl) (hnv) rfl rfl ?_
              refine wo_n rfl (nv_neqQ rfl rfl rfl) rfl rfl ?_
              refine wo_nil ?_
              refine thenW_n ?_
              refine wc_false rfl ?_
              refine wc_skip ?_
              refine thenW_n ?_
              refine wc_seq ?_
              refine wc_seq ?_
              refine wc_region ?_
              refine wo_n rfl (nv_move rfl rfl) rfl rfl ?_
              refine wo_n rfl (nv_nil rfl rfl rfl) rfl rfl ?_
              refine wo_n rfl (nv_fa rfl rfl) rfl rfl ?_
              refine wo_m rfl (mv_load rfl rfl (by assumption)) rfl rfl ?_
              refine wo_n rfl (nv_neqN rfl rfl rfl rfl) rfl rfl ?_
              refine wo_nil ?_
              refine thenW_n ?_
              refine wc_false rfl ?_
              refine wc_skip ?_
              refine thenW_n ?_
              refine wc_seq ?_
              refine wc_draw (by kernel_rfl) ?_
              refine wd_cast (l' := [0, 1, 2, 3, 4, 5, 6, 7, 8, 9, 10, 11]) (by kernel_rfl) rfl ?_
              refine wd_n rfl rfl rfl (nv_move rfl rfl) rfl rfl ?_
              refine wd_n rfl rfl rfl (nv_nil rfl rfl rfl) rfl rfl ?_
              refine wd_n rfl rfl rfl (nv_fa rfl rfl) rfl rfl ?_
              refine wd_load rfl rfl rfl rfl (by assumption) rfl rfl ?_
              refine wd_n rfl rfl rfl (nv_move rfl rfl) rfl rfl ?_
              refine wd_n rfl rfl rfl (nv_nil rfl rfl rfl) rfl rfl ?_
              refine wd_n rfl rfl rfl (nv_fa rfl rfl) rfl rfl ?_
              refine wd_load rfl rfl rfl rfl (by assumption) rfl rfl ?_
              refine wd_n rfl rfl rfl (nv_buildS rfl rfl rfl) rfl rfl ?_
              refine wd_store rfl rfl rfl rfl rfl (by assumption) rfl rfl (Nat.le_of_ble_eq_true rfl) (by kernel_rfl) (by kernel_rfl) rfl ?_
              intro m1 o1 f1 n1
              have x9 := o1.rowAll (n := 2) rfl
              have f9 := f1
              have w4 := w2.store o1 f1
              refine wd_n rfl rfl rfl (nv_assign rfl rfl) rfl rfl ?_
              refine wd_n rfl rfl rfl (nv_assign rfl rfl) rfl rfl ?_
              refine wd_nil ?_
              refine thenW_n ?_
              refine wc_ret ?_
              refine endW_many (by intro i hi; cases hi) rfl (rs := [.cell 2 26, .tmp 3, .tmp 4]) (.cell rfl (by assumption) (.tmp rfl (.tmp rfl .nil))) (by simp) ?_
              refine ⟨frame_out w4.f lb', _, _, rfl, ⟨⟨bO, bN, hro.fr f9 (fun x hx k e => hn2 (e ▸ .inr (.inr k))), hrn.fr f9 (fun x hx k e => hn2 (e ▸ .inr (.inl k))), fun x h => ?_, fun x h => ?_, r2.dd, fun x h => Nat.lt_of_lt_of_le (r2.lN x h) f9.le, fun x h => Nat.lt_of_lt_of_le (r2.lO x h) f9.le⟩, r2.nl, r2.ol⟩⟩
              · exact own_new s2 lb' (.inr (.inr h))
              · exact own_new s2 lb' (.inr (.inl h))
end
end Go.Proofs.YtoedpbjeangdhaaDoor.Sy

namespace Go.Proofs.YtoedpbjeangdhaaDoor.Sy
open Go Go.Ev Go.Ev.Pm Go.Ev.Lm
set_option linter.unusedVariables false
set_option linter.unusedSimpArgs false
set_option linter.unusedSectionVars false
def repA : Nat → List UInt8 → List UInt8
  | 0, _ => []
  | n + 1, a => a ++ repA n a
theorem repA_snoc (a : List UInt8) : ∀ n, repA n a ++ a = repA (n + 1) a := by
  intro n
  induction n with
  | zero => simp [repA]
  | succ n ih =>
    show (a ++ repA n a) ++ a = a ++ repA (n + 1) a
    rw [List.append_assoc, ih]
theorem repA_len (a : List UInt8) : ∀ n, (repA n a).length = n * a.length := by
  intro n
  induction n with
  | zero => simp [repA]
  | succ n ih => show (a ++ repA n a).length = _; rw [List.length_append, ih, Nat.add_mul]; omega
def piece : Nat → List UInt8
  | 0 => [40]
  | 1 => [102, 117, 110, 32, 120, 32, 45, 62, 32]
  | 2 => [105, 102, 32, 97, 32, 116, 104, 101, 110, 32, 98, 32, 101, 108, 115, 101, 32]
  | _ => [108, 101, 116, 32, 120, 32, 61, 32, 49, 32, 105, 110, 32]
def deepS (w n : Nat) : List UInt8 := repA n (piece w)
def deepE (w n : Nat) : List UInt8 := if w = 0 then [49] ++ repA n [41] else [49]
def deepOk (w r : Nat) : Bool := match parseL (deepS w r ++ deepE w r) with
  | .err a c => decide (40 < 1 + r) && (decide (c = 401) && (decide (0 < a) && decide (a ≤ (deepS w r).length)))
  | .ok _ ns => decide (1 + r ≤ 40) && !ns.isEmpty
theorem num_spec {xb : XB} {ext : CallF} (hn : ∀ (f : Nat) (a : List V) (m : Mem), f ∉ XS → ext f a m = none) (m : Mem) (a : Int) : Ev Tryd.prog xb ext 7 [.int .i64 a] m (.int .i64 a) m := by
  refine ev_val ?_
  refine ev_of (fun m => hn _ _ m (by decide)) Tryd.func7 rfl rfl ?_
  refine wc_seq ?_
  refine wc_region ?_
  refine wo_n rfl (nv_assign rfl rfl) rfl rfl ?_
  refine wo_nil ?_
  refine thenW_n ?_
  refine wc_seq ?_
  refine wc_region ?_
  refine wo_n rfl (nv_move rfl rfl) rfl rfl ?_
  refine wo_n rfl (nv_assign rfl rfl) rfl rfl ?_
  refine wo_nil ?_
  refine thenW_n ?_
  refine wc_ret ?_
  refine endW_ret rfl rfl ?_
  exact ⟨rfl, rfl⟩
section
variable {m : Mem} {xb : XB} {ext : CallF} (hL : LH xb ext) (hX : XH ext) (hA : ∀ m, Good m.gl → ext 5 [] m = some (.bool true, m))
include hL hX hA
set_option maxHeartbeats 1000000 in
theorem deep0 (hN : New m) (hg : Good m.gl) (r : Nat) (hr : r < 64) (hok : deepOk 0 r = true) : ∃ v m', Ev Tryd.prog xb ext 3 [.res .i64 4 0, .res .i64 64 r] m v m' ∧ v = .bool true := by
  have haw := ev_ext (p := Tryd.prog) (xb := xb) (hA m hg)
  refine ev_of (fun m => hL.no _ _ m (by decide)) Tryd.func3 rfl rfl ?_
  refine wc_seq ?_
  refine wc_region ?_
  refine wo_n rfl (nv_assign rfl rfl) rfl rfl ?_
  refine wo_nil ?_
  refine thenW_n ?_
  refine wc_seq ?_
  refine wc_seq ?_
  refine wc_region ?_
  refine wo_call rfl rfl (by kernel_rfl) (haw) rfl rfl ?_
  refine wo_n rfl (nv_not rfl rfl) rfl rfl ?_
  refine wo_nil ?_
  refine thenW_n ?_
  refine wc_false rfl ?_
  refine wc_skip ?_
  refine thenW_n ?_
  refine wc_seq ?_
  refine wc_region ?_
  refine wo_n rfl (nv_move rfl rfl) rfl rfl ?_
  refine wo_n rfl (nv_bin rfl rfl rfl ((show _ = some (V.int .i64 ((r : Nat) : Int)) by kernel_rfl))) rfl rfl ?_
  refine wo_n rfl (nv_add rfl rfl rfl rfl (by first | decide | omega) (by first | decide | omega)) rfl rfl ?_
  refine wo_n rfl (nv_assign rfl rfl) rfl rfl ?_
  refine wo_nil ?_
  refine thenW_n ?_
  refine wc_seq ?_
  refine wc_region ?_
  refine wo_n rfl (nv_assign rfl rfl) rfl rfl ?_
  refine wo_n rfl (nv_assign rfl rfl) rfl rfl ?_
  refine wo_nil ?_
  refine thenW_n ?_
  refine wc_seq ?_
  refine wc_seq ?_
  refine wc_region ?_
  refine wo_n rfl (nv_assign rfl rfl) rfl rfl ?_
  refine wo_nil ?_
  refine thenW_n ?_
  refine wc_block ?_
  refine wc_loop (fun k e mj => ∃ i : Nat, k = 1 + r - i ∧ 1 ≤ i ∧ i ≤ 1 + r ∧ mj = m ∧ ELe (envL [(0, .res .i64 4 0), (5, .int .i64 (1 + (r : Int))), (6, vs (txt (deepS 0 (i - 1)))), (7, vs (txt (deepE 0 (i - 1)))), (8, .int .i64 (i : Nat))]) e) r ⟨1, by omega, by omega, by omega, rfl, ?_⟩ ?_
  · exact .cons rfl (.cons rfl (.cons rfl (.cons rfl (.cons rfl (.nil _)))))
  rintro k e mj ⟨i, rfl, hi1, hi, rfl, he⟩
  refine Wc.weak ?_ he
  clear he
  rcases Nat.lt_or_ge i (1 + r) with hlt | hge
  · have hsz : (deepS 0 (i - 1)).length ≤ 63 * 1 := by unfold deepS; rw [repA_len]; show (i - 1) * 1 ≤ _; omega
    have hez : (deepE 0 (i - 1)).length ≤ 64 := by unfold deepE; rw [if_pos rfl, List.length_append, repA_len]; show 1 + (i - 1) * 1 ≤ _; omega
    obtain ⟨j, rfl⟩ : ∃ j, i = j + 1 := ⟨i - 1, by omega⟩
    rw [Nat.add_sub_cancel] at hsz hez
    have hs1 : (txt (deepS 0 j)).size + (txt [40]).size ≤ 9223372036854775807 := by rw [txt_len]; show _ + 1 ≤ _; omega
    have hs2 : (txt (deepE 0 j)).size + (txt [41]).size ≤ 9223372036854775807 := by rw [txt_len]; show _ + 1 ≤ _; omega
    refine wc_seq ?_
    refine wc_seq ?_
    refine wc_region ?_
    refine wo_n rfl (nv_move rfl rfl) rfl rfl ?_
    refine wo_n rfl (nv_move rfl rfl) rfl rfl ?_
    refine wo_n rfl (nv_lssT rfl rfl rfl (by first | assumption | decide | omega)) rfl rfl ?_
    refine wo_nil ?_
    refine thenW_n ?_
    refine wc_true rfl ?_
    refine wc_skip ?_
    refine thenW_n ?_
    refine wc_seq ?_
    refine wc_block ?_
    refine wc_seq ?_
    refine wc_region ?_
    refine wo_n rfl (nv_move rfl rfl) rfl rfl ?_
    refine wo_n rfl (nv_bin rfl rfl rfl ((show _ = some (V.int .i64 0) by kernel_rfl))) rfl rfl ?_
    refine wo_nil ?_
    refine thenW_n ?_
    refine wc_block ?_
    refine wc_seq ?_
    refine wc_region ?_
    refine wo_n rfl (nv_eqlT rfl rfl rfl (by first | assumption | decide | omega)) rfl rfl ?_
    refine wo_n rfl (nv_assign rfl rfl) rfl rfl ?_
    refine wo_nil ?_
    refine thenW_n ?_
    refine wc_true rfl ?_
    refine wc_seq ?_
    refine wc_region ?_
    refine wo_n rfl (nv_move rfl rfl) rfl rfl ?_
    refine wo_n rfl (nv_sadd (u := txt [40]) rfl rfl (show _ = some (vs (txt [40])) by kernel_rfl) (by first | assumption | (simp only [ByteArray.size_append, txt_size, List.length]; omega))) rfl rfl ?_
    refine wo_n rfl (nv_assign rfl rfl) rfl rfl ?_
    refine wo_nil ?_
    refine thenW_n ?_
    refine wc_region ?_
    refine wo_n rfl (nv_move rfl rfl) rfl rfl ?_
    refine wo_n rfl (nv_sadd (u := txt [41]) rfl rfl (show _ = some (vs (txt [41])) by kernel_rfl) (by first | assumption | (simp only [ByteArray.size_append, txt_size, List.length]; omega))) rfl rfl ?_
    refine wo_n rfl (nv_assign rfl rfl) rfl rfl ?_
    refine wo_nil ?_
    refine blockW_n ?_
    refine blockW_n ?_
    refine thenW_n ?_
    refine wc_region ?_
    refine wo_n rfl (nv_move rfl rfl) rfl rfl ?_
    refine wo_n rfl (nv_add rfl rfl rfl rfl (by first | decide | omega) (by first | decide | omega)) rfl rfl ?_
    refine wo_n rfl (nv_assign rfl rfl) rfl rfl ?_
    refine wo_nil ?_
    refine ⟨1 + r - (j + 1 + 1), by omega, j + 1 + 1, rfl, by omega, by omega, rfl, ?_⟩
    refine .cons rfl (.cons rfl (.cons ?_ (.cons ?_ (.cons rfl (.nil _)))))
    · show some (vs (txt (deepS 0 j) ++ txt [40])) = some (vs (txt (deepS 0 (j + 1))))
      rw [txt_append]; unfold deepS; rw [← repA_snoc]; rfl
    · show some (vs (txt (deepE 0 j) ++ txt [41])) = some (vs (txt (deepE 0 (j + 1))))
      rw [txt_append]; unfold deepE; rw [if_pos rfl, if_pos rfl, List.append_assoc, repA_snoc]
  · have : i = 1 + r := by omega
    subst this
    have hsub : 1 + r - 1 = r := by omega
    have hsz : (deepS 0 r).length ≤ 63 * 1 := by unfold deepS; rw [repA_len]; show r * 1 ≤ _; omega
    have hez : (deepE 0 r).length ≤ 64 := by unfold deepE; rw [if_pos rfl, List.length_append, repA_len]; show 1 + r * 1 ≤ _; omega
    have hs1 : (txt (deepS 0 r)).size + (txt (deepE 0 r)).size ≤ 9223372036854775807 := by rw [txt_len, txt_len]; omega
    obtain ⟨v, mp, hv, fp, hres⟩ := parse_spec (m := mj) hL hX hN hg (deepS 0 r ++ deepE 0 r)
    rw [← txt_append] at hv
    unfold deepOk at hok
    rw [hsub]
    cases hpl : parseL (deepS 0 r ++ deepE 0 r) with
    | err a c =>
      rw [hpl] at hres hok
      dsimp only at hres hok
      subst hres
      simp only [Bool.and_eq_true, decide_eq_true_eq] at hok
      obtain ⟨h40, rfl, h0, h1⟩ := hok
      refine wc_seq ?_
      refine wc_seq ?_
      refine wc_region ?_
      refine wo_n rfl (nv_move rfl rfl) rfl rfl ?_
      refine wo_n rfl (nv_move rfl rfl) rfl rfl ?_
      refine wo_n rfl (nv_lssF rfl rfl rfl (by first | assumption | decide | omega)) rfl rfl ?_
      refine wo_nil ?_
      refine thenW_n ?_
      refine wc_false rfl ?_
      refine wc_exit ?_
      refine thenW_x ?_
      refine blockW_x ?_
      refine thenW_n ?_
      refine wc_seq ?_
      refine wc_region ?_
      refine wo_n rfl (nv_move rfl rfl) rfl rfl ?_
      refine wo_n rfl (nv_move rfl rfl) rfl rfl ?_
      refine wo_n rfl (nv_sadd  rfl rfl rfl (by first | assumption | (simp only [ByteArray.size_append, txt_size, List.length]; omega))) rfl rfl ?_
      refine wo_call rfl rfl (by kernel_rfl) (hv) rfl rfl ?_
      refine wo_n rfl (nv_move rfl rfl) rfl rfl ?_
      refine wo_n rfl (nv_ex rfl rfl rfl) rfl rfl ?_
      refine wo_n rfl (nv_ex rfl rfl rfl) rfl rfl ?_
      refine wo_n rfl (nv_ex rfl rfl rfl) rfl rfl ?_
      refine wo_alloc rfl rfl rfl rfl ?_
      intro g1 m1 o1 f1 l1
      have a1 := o1
      refine wo_store rfl rfl rfl rfl (by assumption) rfl rfl (Nat.le_of_ble_eq_true rfl) rfl ?_
      intro m2 o2 f2 n2
      have c1 := o2.cell (i := 1) rfl
      refine wo_n rfl (nv_assign rfl rfl) rfl rfl ?_
      refine wo_n rfl (nv_assign rfl rfl) rfl rfl ?_
      refine wo_nil ?_
      refine thenW_n ?_
      refine wc_seq ?_
      refine wc_seq ?_
      refine wc_region ?_
      refine wo_n rfl (nv_move rfl rfl) rfl rfl ?_
      refine wo_n rfl (nv_gtrT rfl rfl rfl (by first | assumption | decide | omega)) rfl rfl ?_
      refine wo_nil ?_
      refine thenW_n ?_
      refine wc_true rfl ?_
      refine wc_seq ?_
      refine wc_region ?_
      refine wo_n rfl (nv_move rfl rfl) rfl rfl ?_
      refine wo_call rfl rfl (by kernel_rfl) (num_spec hL.no _ 401) rfl rfl ?_
      refine wo_n rfl (nv_eqlT rfl rfl rfl (by first | assumption | decide | omega)) rfl rfl ?_
      refine wo_n rfl (nv_move rfl rfl) rfl rfl ?_
      refine wo_n rfl (nv_fa rfl rfl) rfl rfl ?_
      refine wo_m rfl (mv_load rfl rfl (by assumption)) rfl rfl ?_
      first
        | refine wo_n rfl (nv_lenS rfl rfl rfl) rfl rfl ?_
        | refine wo_n rfl (nv_lenN rfl rfl rfl) rfl rfl ?_
        | refine wo_n rfl (nv_lenR (by assumption) rfl rfl rfl) rfl rfl ?_
      refine wo_n rfl (nv_eqlT rfl rfl rfl (by first | assumption | decide | omega)) rfl rfl ?_
      refine wo_n rfl (nv_pickT rfl rfl rfl) rfl rfl ?_
      refine wo_n rfl (nv_move rfl rfl) rfl rfl ?_
      refine wo_n rfl (nv_move rfl rfl) rfl rfl ?_
      refine wo_n rfl (nv_gtrT rfl rfl rfl (by first | assumption | decide | omega)) rfl rfl ?_
      refine wo_n rfl (nv_pickT rfl rfl rfl) rfl rfl ?_
      refine wo_n rfl (nv_move rfl rfl) rfl rfl ?_
      refine wo_n rfl (nv_move rfl rfl) rfl rfl ?_
      refine wo_n rfl (nv_move rfl rfl) rfl rfl ?_
      first
        | refine wo_n rfl (nv_lenL rfl rfl rfl) rfl rfl ?_
        | refine wo_n rfl (nv_lenT rfl rfl rfl) rfl rfl ?_
      refine wo_n rfl (nv_leqT rfl rfl rfl (by first | assumption | decide | omega)) rfl rfl ?_
      refine wo_n rfl (nv_pickT rfl rfl rfl) rfl rfl ?_
      refine wo_n rfl (nv_assign rfl rfl) rfl rfl ?_
      refine wo_nil ?_
      refine thenW_n ?_
      refine wc_ret ?_
      refine thenW_r ?_
      refine endW_ret rfl rfl ?_
      rfl
    | ok ops ns =>
      rw [hpl] at hres hok
      dsimp only at hres hok
      obtain ⟨ov, nv, rfl, hP⟩ := hres
      obtain ⟨oO, oN, hro, hrn, _, _, _, hlN, hlO⟩ := hP.ex
      simp only [Bool.and_eq_true, decide_eq_true_eq] at hok
      obtain ⟨h40, hne⟩ := hok
      have hpos : 0 < ns.length := by cases ns with | nil => simp at hne | cons _ _ => simp
      have hfo := RowR.form hro
      have hfn := RowR.form hrn
      rcases hfo with rfl | ⟨qo, rfl⟩ <;> rcases hfn with rfl | ⟨qn, rfl⟩
      all_goals
        try have hz0 := RowR.nil0 hrn
        refine wc_seq ?_
        refine wc_seq ?_
        refine wc_region ?_
        refine wo_n rfl (nv_move rfl rfl) rfl rfl ?_
        refine wo_n rfl (nv_move rfl rfl) rfl rfl ?_
        refine wo_n rfl (nv_lssF rfl rfl rfl (by first | assumption | decide | omega)) rfl rfl ?_
        refine wo_nil ?_
        refine thenW_n ?_
        refine wc_false rfl ?_
        refine wc_exit ?_
        refine thenW_x ?_
        refine blockW_x ?_
        refine thenW_n ?_
        refine wc_seq ?_
        refine wc_region ?_
        refine wo_n rfl (nv_move rfl rfl) rfl rfl ?_
        refine wo_n rfl (nv_move rfl rfl) rfl rfl ?_
        refine wo_n rfl (nv_sadd  rfl rfl rfl (by first | assumption | (simp only [ByteArray.size_append, txt_size, List.length]; omega))) rfl rfl ?_
        refine wo_call rfl rfl (by kernel_rfl) (hv) rfl rfl ?_
        refine wo_n rfl (nv_move rfl rfl) rfl rfl ?_
        refine wo_n rfl (nv_ex rfl rfl rfl) rfl rfl ?_
        refine wo_n rfl (nv_ex rfl rfl rfl) rfl rfl ?_
        refine wo_n rfl (nv_ex rfl rfl rfl) rfl rfl ?_
        refine wo_alloc rfl rfl rfl rfl ?_
        intro g1 m1 o1 f1 l1
        have a1 := o1
        have hr1 := hrn.fr f1 (fun _ _ _ h => h)
        refine wo_store rfl rfl rfl rfl (by assumption) rfl rfl (Nat.le_of_ble_eq_true rfl) rfl ?_
        intro m2 o2 f2 n2
        have c1 := o2.cell (i := 1) rfl
        have hr2 := hr1.fr f2 (fun x hx h e => by have h9 := hlN x h; have e9 : x = g1 := e; omega)
        refine wo_n rfl (nv_assign rfl rfl) rfl rfl ?_
        refine wo_n rfl (nv_assign rfl rfl) rfl rfl ?_
        refine wo_nil ?_
        refine thenW_n ?_
        refine wc_seq ?_
        refine wc_seq ?_
        refine wc_region ?_
        refine wo_n rfl (nv_move rfl rfl) rfl rfl ?_
        refine wo_n rfl (nv_gtrF rfl rfl rfl (by first | assumption | decide | omega)) rfl rfl ?_
        refine wo_nil ?_
        refine thenW_n ?_
        refine wc_false rfl ?_
        refine wc_skip ?_
        refine thenW_n ?_
        refine wc_seq ?_
        refine wc_region ?_
        refine wo_n rfl (nv_move rfl rfl) rfl rfl ?_
        refine wo_call rfl rfl (by kernel_rfl) (num_spec hL.no _ 0) rfl rfl ?_
        refine wo_n rfl (nv_eqlT rfl rfl rfl (by first | assumption | decide | omega)) rfl rfl ?_
        refine wo_n rfl (nv_move rfl rfl) rfl rfl ?_
        refine wo_n rfl (nv_fa rfl rfl) rfl rfl ?_
        refine wo_m rfl (mv_load rfl rfl (by assumption)) rfl rfl ?_
        first
          | refine wo_n rfl (nv_lenS rfl rfl rfl) rfl rfl ?_
          | refine wo_n rfl (nv_lenN rfl rfl rfl) rfl rfl ?_
          | refine wo_n rfl (nv_lenR (by assumption) rfl rfl rfl) rfl rfl ?_
        refine wo_n rfl (nv_gtrT rfl rfl rfl (by first | assumption | decide | omega)) rfl rfl ?_
        refine wo_n rfl (nv_pickT rfl rfl rfl) rfl rfl ?_
        refine wo_n rfl (nv_assign rfl rfl) rfl rfl ?_
        refine wo_nil ?_
        refine thenW_n ?_
        refine wc_ret ?_
        refine endW_ret rfl rfl ?_
        rfl
set_option maxHeartbeats 1000000 in
theorem deep1 (hN : New m) (hg : Good m.gl) (r : Nat) (hr : r < 64) (hok : deepOk 1 r = true) : ∃ v m', Ev Tryd.prog xb ext 3 [.res .i64 4 1, .res .i64 64 r] m v m' ∧ v = .bool true := by
  have haw := ev_ext (p := Tryd.prog) (xb := xb) (hA m hg)
  refine ev_of (fun m => hL.no _ _ m (by decide)) Tryd.func3 rfl rfl ?_
  refine wc_seq ?_
  refine wc_region ?_
  refine wo_n rfl (nv_assign rfl rfl) rfl rfl ?_
  refine wo_nil ?_
  refine thenW_n ?_
  refine wc_seq ?_
  refine wc_seq ?_
  refine wc_region ?_
  refine wo_call rfl rfl (by kernel_rfl) (haw) rfl rfl ?_
  refine wo_n rfl (nv_not rfl rfl) rfl rfl ?_
  refine wo_nil ?_
  refine thenW_n ?_
  refine wc_false rfl ?_
  refine wc_skip ?_
  refine thenW_n ?_
  refine wc_seq ?_
  refine wc_region ?_
  refine wo_n rfl (nv_move rfl rfl) rfl rfl ?_
  refine wo_n rfl (nv_bin rfl rfl rfl ((show _ = some (V.int .i64 ((r : Nat) : Int)) by kernel_rfl))) rfl rfl ?_
  refine wo_n rfl (nv_add rfl rfl rfl rfl (by first | decide | omega) (by first | decide | omega)) rfl rfl ?_
  refine wo_n rfl (nv_assign rfl rfl) rfl rfl ?_
  refine wo_nil ?_
  refine thenW_n ?_
  refine wc_seq ?_
  refine wc_region ?_
  refine wo_n rfl (nv_assign rfl rfl) rfl rfl ?_
  refine wo_n rfl (nv_assign rfl rfl) rfl rfl ?_
  refine wo_nil ?_
  refine thenW_n ?_
  refine wc_seq ?_
  refine wc_seq ?_
  refine wc_region ?_
  refine wo_n rfl (nv_assign rfl rfl) rfl rfl ?_
  refine wo_nil ?_
  refine thenW_n ?_
  refine wc_block ?_
  refine wc_loop (fun k e mj => ∃ i : Nat, k = 1 + r - i ∧ 1 ≤ i ∧ i ≤ 1 + r ∧ mj = m ∧ ELe (envL [(0, .res .i64 4 1), (5, .int .i64 (1 + (r : Int))), (6, vs (txt (deepS 1 (i - 1)))), (7, vs (txt (deepE 1 (i - 1)))), (8, .int .i64 (i : Nat))]) e) r ⟨1, by omega, by omega, by omega, rfl, ?_⟩ ?_
  · exact .cons rfl (.cons rfl (.cons rfl (.cons rfl (.cons rfl (.nil _)))))
  rintro k e mj ⟨i, rfl, hi1, hi, rfl, he⟩
  refine Wc.weak ?_ he
  clear he
  rcases Nat.lt_or_ge i (1 + r) with hlt | hge
  · have hsz : (deepS 1 (i - 1)).length ≤ 63 * 9 := by unfold deepS; rw [repA_len]; show (i - 1) * 9 ≤ _; omega
    obtain ⟨j, rfl⟩ : ∃ j, i = j + 1 := ⟨i - 1, by omega⟩
    rw [Nat.add_sub_cancel] at hsz
    have hs1 : (txt (deepS 1 j)).size + (txt [102, 117, 110, 32, 120, 32, 45, 62, 32]).size ≤ 9223372036854775807 := by rw [txt_len]; show _ + 9 ≤ _; omega
    refine wc_seq ?_
    refine wc_seq ?_
    refine wc_region ?_
    refine wo_n rfl (nv_move rfl rfl) rfl rfl ?_
    refine wo_n rfl (nv_move rfl rfl) rfl rfl ?_
    refine wo_n rfl (nv_lssT rfl rfl rfl (by first | assumption | decide | omega)) rfl rfl ?_
    refine wo_nil ?_
    refine thenW_n ?_
    refine wc_true rfl ?_
    refine wc_skip ?_
    refine thenW_n ?_
    refine wc_seq ?_
    refine wc_block ?_
    refine wc_seq ?_
    refine wc_region ?_
    refine wo_n rfl (nv_move rfl rfl) rfl rfl ?_
    refine wo_n rfl (nv_bin rfl rfl rfl ((show _ = some (V.int .i64 1) by kernel_rfl))) rfl rfl ?_
    refine wo_nil ?_
    refine thenW_n ?_
    refine wc_block ?_
    refine wc_seq ?_
    refine wc_region ?_
    refine wo_n rfl (nv_eqlF rfl rfl rfl (by first | assumption | decide | omega)) rfl rfl ?_
    refine wo_n rfl (nv_assign rfl rfl) rfl rfl ?_
    refine wo_nil ?_
    refine thenW_n ?_
    refine wc_false rfl ?_
    refine wc_seq ?_
    refine wc_region ?_
    refine wo_n rfl (nv_eqlT rfl rfl rfl (by first | assumption | decide | omega)) rfl rfl ?_
    refine wo_n rfl (nv_assign rfl rfl) rfl rfl ?_
    refine wo_nil ?_
    refine thenW_n ?_
    refine wc_true rfl ?_
    refine wc_region ?_
    refine wo_n rfl (nv_move rfl rfl) rfl rfl ?_
    refine wo_n rfl (nv_sadd (u := txt [102, 117, 110, 32, 120, 32, 45, 62, 32]) rfl rfl (show _ = some (vs (txt [102, 117, 110, 32, 120, 32, 45, 62, 32])) by kernel_rfl) (by first | assumption | (simp only [ByteArray.size_append, txt_size, List.length]; omega))) rfl rfl ?_
    refine wo_n rfl (nv_assign rfl rfl) rfl rfl ?_
    refine wo_nil ?_
    refine blockW_n ?_
    refine blockW_n ?_
    refine thenW_n ?_
    refine wc_region ?_
    refine wo_n rfl (nv_move rfl rfl) rfl rfl ?_
    refine wo_n rfl (nv_add rfl rfl rfl rfl (by first | decide | omega) (by first | decide | omega)) rfl rfl ?_
    refine wo_n rfl (nv_assign rfl rfl) rfl rfl ?_
    refine wo_nil ?_
    refine ⟨1 + r - (j + 1 + 1), by omega, j + 1 + 1, rfl, by omega, by omega, rfl, ?_⟩
    refine .cons rfl (.cons rfl (.cons ?_ (.cons ?_ (.cons rfl (.nil _)))))
    · show some (vs (txt (deepS 1 j) ++ txt [102, 117, 110, 32, 120, 32, 45, 62, 32])) = some (vs (txt (deepS 1 (j + 1))))
      rw [txt_append]; unfold deepS; rw [← repA_snoc]; rfl
    · rfl
  · have : i = 1 + r := by omega
    subst this
    have hsub : 1 + r - 1 = r := by omega
    have hsz : (deepS 1 r).length ≤ 63 * 9 := by unfold deepS; rw [repA_len]; show r * 9 ≤ _; omega
    have hez : (deepE 1 r).length ≤ 64 := by unfold deepE; rw [if_neg (by decide)]; simp
    have hs1 : (txt (deepS 1 r)).size + (txt (deepE 1 r)).size ≤ 9223372036854775807 := by rw [txt_len, txt_len]; omega
    obtain ⟨v, mp, hv, fp, hres⟩ := parse_spec (m := mj) hL hX hN hg (deepS 1 r ++ deepE 1 r)
    rw [← txt_append] at hv
    unfold deepOk at hok
    rw [hsub]
    cases hpl : parseL (deepS 1 r ++ deepE 1 r) with
    | err a c =>
      rw [hpl] at hres hok
      dsimp only at hres hok
      subst hres
      simp only [Bool.and_eq_true, decide_eq_true_eq] at hok
      obtain ⟨h40, rfl, h0, h1⟩ := hok
      refine wc_seq ?_
      refine wc_seq ?_
      refine wc_region ?_
      refine wo_n rfl (nv_move rfl rfl) rfl rfl ?_
      refine wo_n rfl (nv_move rfl rfl) rfl rfl ?_
      refine wo_n rfl (nv_lssF rfl rfl rfl (by first | assumption | decide | omega)) rfl rfl ?_
      refine wo_nil ?_
      refine thenW_n ?_
      refine wc_false rfl ?_
      refine wc_exit ?_
      refine thenW_x ?_
      refine blockW_x ?_
      refine thenW_n ?_
      refine wc_seq ?_
      refine wc_region ?_
      refine wo_n rfl (nv_move rfl rfl) rfl rfl ?_
      refine wo_n rfl (nv_move rfl rfl) rfl rfl ?_
      refine wo_n rfl (nv_sadd  rfl rfl rfl (by first | assumption | (simp only [ByteArray.size_append, txt_size, List.length]; omega))) rfl rfl ?_
      refine wo_call rfl rfl (by kernel_rfl) (hv) rfl rfl ?_
      refine wo_n rfl (nv_move rfl rfl) rfl rfl ?_
      refine wo_n rfl (nv_ex rfl rfl rfl) rfl rfl ?_
      refine wo_n rfl (nv_ex rfl rfl rfl) rfl rfl ?_
      refine wo_n rfl (nv_ex rfl rfl rfl) rfl rfl ?_
      refine wo_alloc rfl rfl rfl rfl ?_
      intro g1 m1 o1 f1 l1
      have a1 := o1
      refine wo_store rfl rfl rfl rfl (by assumption) rfl rfl (Nat.le_of_ble_eq_true rfl) rfl ?_
      intro m2 o2 f2 n2
      have c1 := o2.cell (i := 1) rfl
      refine wo_n rfl (nv_assign rfl rfl) rfl rfl ?_
      refine wo_n rfl (nv_assign rfl rfl) rfl rfl ?_
      refine wo_nil ?_
      refine thenW_n ?_
      refine wc_seq ?_
      refine wc_seq ?_
      refine wc_region ?_
      refine wo_n rfl (nv_move rfl rfl) rfl rfl ?_
      refine wo_n rfl (nv_gtrT rfl rfl rfl (by first | assumption | decide | omega)) rfl rfl ?_
      refine wo_nil ?_
      refine thenW_n ?_
      refine wc_true rfl ?_
      refine wc_seq ?_
      refine wc_region ?_
      refine wo_n rfl (nv_move rfl rfl) rfl rfl ?_
      refine wo_call rfl rfl (by kernel_rfl) (num_spec hL.no _ 401) rfl rfl ?_
      refine wo_n rfl (nv_eqlT rfl rfl rfl (by first | assumption | decide | omega)) rfl rfl ?_
      refine wo_n rfl (nv_move rfl rfl) rfl rfl ?_
      refine wo_n rfl (nv_fa rfl rfl) rfl rfl ?_
      refine wo_m rfl (mv_load rfl rfl (by assumption)) rfl rfl ?_
      first
        | refine wo_n rfl (nv_lenS rfl rfl rfl) rfl rfl ?_
        | refine wo_n rfl (nv_lenN rfl rfl rfl) rfl rfl ?_
        | refine wo_n rfl (nv_lenR (by assumption) rfl rfl rfl) rfl rfl ?_
      refine wo_n rfl (nv_eqlT rfl rfl rfl (by first | assumption | decide | omega)) rfl rfl ?_
      refine wo_n rfl (nv_pickT rfl rfl rfl) rfl rfl ?_
      refine wo_n rfl (nv_move rfl rfl) rfl rfl ?_
      refine wo_n rfl (nv_move rfl rfl) rfl rfl ?_
      refine wo_n rfl (nv_gtrT rfl rfl rfl (by first | assumption | decide | omega)) rfl rfl ?_
      refine wo_n rfl (nv_pickT rfl rfl rfl) rfl rfl ?_
      refine wo_n rfl (nv_move rfl rfl) rfl rfl ?_
      refine wo_n rfl (nv_move rfl rfl) rfl rfl ?_
      refine wo_n rfl (nv_move rfl rfl) rfl rfl ?_
      first
        | refine wo_n rfl (nv_lenL rfl rfl rfl) rfl rfl ?_
        | refine wo_n rfl (nv_lenT rfl rfl rfl) rfl rfl ?_
      refine wo_n rfl (nv_leqT rfl rfl rfl (by first | assumption | decide | omega)) rfl rfl ?_
      refine wo_n rfl (nv_pickT rfl rfl rfl) rfl rfl ?_
      refine wo_n rfl (nv_assign rfl rfl) rfl rfl ?_
      refine wo_nil ?_
      refine thenW_n ?_
      refine wc_ret ?_
      refine thenW_r ?_
      refine endW_ret rfl rfl ?_
      rfl
    | ok ops ns =>
      rw [hpl] at hres hok
      dsimp only at hres hok
      obtain ⟨ov, nv, rfl, hP⟩ := hres
      obtain ⟨oO, oN, hro, hrn, _, _, _, hlN, hlO⟩ := hP.ex
      simp only [Bool.and_eq_true, decide_eq_true_eq] at hok
      obtain ⟨h40, hne⟩ := hok
      have hpos : 0 < ns.length := by cases ns with | nil => simp at hne | cons _ _ => simp
      have hfo := RowR.form hro
      have hfn := RowR.form hrn
      rcases hfo with rfl | ⟨qo, rfl⟩ <;> rcases hfn with rfl | ⟨qn, rfl⟩
      all_goals
        try have hz0 := RowR.nil0 hrn
        refine wc_seq ?_
        refine wc_seq ?_
        refine wc_region ?_
        refine wo_n rfl (nv_move rfl rfl) rfl rfl ?_
        refine wo_n rfl (nv_move rfl rfl) rfl rfl ?_
        refine wo_n rfl (nv_lssF rfl rfl rfl (by first | assumption | decide | omega)) rfl rfl ?_
        refine wo_nil ?_
        refine thenW_n ?_
        refine wc_false rfl ?_
        refine wc_exit ?_
        refine thenW_x ?_
        refine blockW_x ?_
        refine thenW_n ?_
        refine wc_seq ?_
        refine wc_region ?_
        refine wo_n rfl (nv_move rfl rfl) rfl rfl ?_
        refine wo_n rfl (nv_move rfl rfl) rfl rfl ?_
        refine wo_n rfl (nv_sadd  rfl rfl rfl (by first | assumption | (simp only [ByteArray.size_append, txt_size, List.length]; omega))) rfl rfl ?_
        refine wo_call rfl rfl (by kernel_rfl) (hv) rfl rfl ?_
        refine wo_n rfl (nv_move rfl rfl) rfl rfl ?_
        refine wo_n rfl (nv_ex rfl rfl rfl) rfl rfl ?_
        refine wo_n rfl (nv_ex rfl rfl rfl) rfl rfl ?_
        refine wo_n rfl (nv_ex rfl rfl rfl) rfl rfl ?_
        refine wo_alloc rfl rfl rfl rfl ?_
        intro g1 m1 o1 f1 l1
        have a1 := o1
        have hr1 := hrn.fr f1 (fun _ _ _ h => h)
        refine wo_store rfl rfl rfl rfl (by assumption) rfl rfl (Nat.le_of_ble_eq_true rfl) rfl ?_
        intro m2 o2 f2 n2
        have c1 := o2.cell (i := 1) rfl
        have hr2 := hr1.fr f2 (fun x hx h e => by have h9 := hlN x h; have e9 : x = g1 := e; omega)
        refine wo_n rfl (nv_assign rfl rfl) rfl rfl ?_
        refine wo_n rfl (nv_assign rfl rfl) rfl rfl ?_
        refine wo_nil ?_
        refine thenW_n ?_
        refine wc_seq ?_
        refine wc_seq ?_
        refine wc_region ?_
        refine wo_n rfl (nv_move rfl rfl) rfl rfl ?_
        refine wo_n rfl (nv_gtrF rfl rfl rfl (by first | assumption | decide | omega)) rfl rfl ?_
        refine wo_nil ?_
        refine thenW_n ?_
        refine wc_false rfl ?_
        refine wc_skip ?_
        refine thenW_n ?_
        refine wc_seq ?_
        refine wc_region ?_
        refine wo_n rfl (nv_move rfl rfl) rfl rfl ?_
        refine wo_call rfl rfl (by kernel_rfl) (num_spec hL.no _ 0) rfl rfl ?_
        refine wo_n rfl (nv_eqlT rfl rfl rfl (by first | assumption | decide | omega)) rfl rfl ?_
        refine wo_n rfl (nv_move rfl rfl) rfl rfl ?_
        refine wo_n rfl (nv_fa rfl rfl) rfl rfl ?_
        refine wo_m rfl (mv_load rfl rfl (by assumption)) rfl rfl ?_
        first
          | refine wo_n rfl (nv_lenS rfl rfl rfl) rfl rfl ?_
          | refine wo_n rfl (nv_lenN rfl rfl rfl) rfl rfl ?_
          | refine wo_n rfl (nv_lenR (by assumption) rfl rfl rfl) rfl rfl ?_
        refine wo_n rfl (nv_gtrT rfl rfl rfl (by first | assumption | decide | omega)) rfl rfl ?_
        refine wo_n rfl (nv_pickT rfl rfl rfl) rfl rfl ?_
        refine wo_n rfl (nv_assign rfl rfl) rfl rfl ?_
        refine wo_nil ?_
        refine thenW_n ?_
        refine wc_ret ?_
        refine endW_ret rfl rfl ?_
        rfl
set_option maxHeartbeats 1000000 in
theorem deep2 (hN : New m) (hg : Good m.gl) (r : Nat) (hr : r < 64) (hok : deepOk 2 r = true) : ∃ v m', Ev Tryd.prog xb ext 3 [.res .i64 4 2, .res .i64 64 r] m v m' ∧ v = .bool true := by
  have haw := ev_ext (p := Tryd.prog) (xb := xb) (hA m hg)
  refine ev_of (fun m => hL.no _ _ m (by decide)) Tryd.func3 rfl rfl ?_
  refine wc_seq ?_
  refine wc_region ?_
  refine wo_n rfl (nv_assign rfl rfl) rfl rfl ?_
  refine wo_nil ?_
  refine thenW_n ?_
  refine wc_seq ?_
  refine wc_seq ?_
  refine wc_region ?_
  refine wo_call rfl rfl (by kernel_rfl) (haw) rfl rfl ?_
  refine wo_n rfl (nv_not rfl rfl) rfl rfl ?_
  refine wo_nil ?_
  refine thenW_n ?_
  refine wc_false rfl ?_
  refine wc_skip ?_
  refine thenW_n ?_
  refine wc_seq ?_
  refine wc_region ?_
  refine wo_n rfl (nv_move rfl rfl) rfl rfl ?_
  refine wo_n rfl (nv_bin rfl rfl rfl ((show _ = some (V.int .i64 ((r : Nat) : Int)) by kernel_rfl))) rfl rfl ?_
  refine wo_n rfl (nv_add rfl rfl rfl rfl (by first | decide | omega) (by first | decide | omega)) rfl rfl ?_
  refine wo_n rfl (nv_assign rfl rfl) rfl rfl ?_
  refine wo_nil ?_
  refine thenW_n ?_
  refine wc_seq ?_
  refine wc_region ?_
  refine wo_n rfl (nv_assign rfl rfl) rfl rfl ?_
  refine wo_n rfl (nv_assign rfl rfl) rfl rfl ?_
  refine wo_nil ?_
  refine thenW_n ?_
  refine wc_seq ?_
  refine wc_seq ?_
  refine wc_region ?_
  refine wo_n rfl (nv_assign rfl rfl) rfl rfl ?_
  refine wo_nil ?_
  refine thenW_n ?_
  refine wc_block ?_
  refine wc_loop (fun k e mj => ∃ i : Nat, k = 1 + r - i ∧ 1 ≤ i ∧ i ≤ 1 + r ∧ mj = m ∧ ELe (envL [(0, .res .i64 4 2), (5, .int .i64 (1 + (r : Int))), (6, vs (txt (deepS 2 (i - 1)))), (7, vs (txt (deepE 2 (i - 1)))), (8, .int .i64 (i : Nat))]) e) r ⟨1, by omega, by omega, by omega, rfl, ?_⟩ ?_
  · exact .cons rfl (.cons rfl (.cons rfl (.cons rfl (.cons rfl (.nil _)))))
  rintro k e mj ⟨i, rfl, hi1, hi, rfl, he⟩
  refine Wc.weak ?_ he
  clear he
  rcases Nat.lt_or_ge i (1 + r) with hlt | hge
  · have hsz : (deepS 2 (i - 1)).length ≤ 63 * 17 := by unfold deepS; rw [repA_len]; show (i - 1) * 17 ≤ _; omega
    obtain ⟨j, rfl⟩ : ∃ j, i = j + 1 := ⟨i - 1, by omega⟩
    rw [Nat.add_sub_cancel] at hsz
    have hs1 : (txt (deepS 2 j)).size + (txt [105, 102, 32, 97, 32, 116, 104, 101, 110, 32, 98, 32, 101, 108, 115, 101, 32]).size ≤ 9223372036854775807 := by rw [txt_len]; show _ + 17 ≤ _; omega
    refine wc_seq ?_
    refine wc_seq ?_
    refine wc_region ?_
    refine wo_n rfl (nv_move rfl rfl) rfl rfl ?_
    refine wo_n rfl (nv_move rfl rfl) rfl rfl ?_
    refine wo_n rfl (nv_lssT rfl rfl rfl (by first | assumption | decide | omega)) rfl rfl ?_
    refine wo_nil ?_
    refine thenW_n ?_
    refine wc_true rfl ?_
    refine wc_skip ?_
    refine thenW_n ?_
    refine wc_seq ?_
    refine wc_block ?_
    refine wc_seq ?_
    refine wc_region ?_
    refine wo_n rfl (nv_move rfl rfl) rfl rfl ?_
    refine wo_n rfl (nv_bin rfl rfl rfl ((show _ = some (V.int .i64 2) by kernel_rfl))) rfl rfl ?_
    refine wo_nil ?_
    refine thenW_n ?_
    refine wc_block ?_
    refine wc_seq ?_
    refine wc_region ?_
    refine wo_n rfl (nv_eqlF rfl rfl rfl (by first | assumption | decide | omega)) rfl rfl ?_
    refine wo_n rfl (nv_assign rfl rfl) rfl rfl ?_
    refine wo_nil ?_
    refine thenW_n ?_
    refine wc_false rfl ?_
    refine wc_seq ?_
    refine wc_region ?_
    refine wo_n rfl (nv_eqlF rfl rfl rfl (by first | assumption | decide | omega)) rfl rfl ?_
    refine wo_n rfl (nv_assign rfl rfl) rfl rfl ?_
    refine wo_nil ?_
    refine thenW_n ?_
    refine wc_false rfl ?_
    refine wc_seq ?_
    refine wc_region ?_
    refine wo_n rfl (nv_eqlT rfl rfl rfl (by first | assumption | decide | omega)) rfl rfl ?_
    refine wo_n rfl (nv_assign rfl rfl) rfl rfl ?_
    refine wo_nil ?_
    refine thenW_n ?_
    refine wc_true rfl ?_
    refine wc_region ?_
    refine wo_n rfl (nv_move rfl rfl) rfl rfl ?_
    refine wo_n rfl (nv_sadd (u := txt [105, 102, 32, 97, 32, 116, 104, 101, 110, 32, 98, 32, 101, 108, 115, 101, 32]) rfl rfl (show _ = some (vs (txt [105, 102, 32, 97, 32, 116, 104, 101, 110, 32, 98, 32, 101, 108, 115, 101, 32])) by kernel_rfl) (by first | assumption | (simp only [ByteArray.size_append, txt_size, List.length]; omega))) rfl rfl ?_
    refine wo_n rfl (nv_assign rfl rfl) rfl rfl ?_
    refine wo_nil ?_
    refine blockW_n ?_
    refine blockW_n ?_
    refine thenW_n ?_
    refine wc_region ?_
    refine wo_n rfl (nv_move rfl rfl) rfl rfl ?_
    refine wo_n rfl (nv_add rfl rfl rfl rfl (by first | decide | omega) (by first | decide | omega)) rfl rfl ?_
    refine wo_n rfl (nv_assign rfl rfl) rfl rfl ?_
    refine wo_nil ?_
    refine ⟨1 + r - (j + 1 + 1), by omega, j + 1 + 1, rfl, by omega, by omega, rfl, ?_⟩
    refine .cons rfl (.cons rfl (.cons ?_ (.cons ?_ (.cons rfl (.nil _)))))
    · show some (vs (txt (deepS 2 j) ++ txt [105, 102, 32, 97, 32, 116, 104, 101, 110, 32, 98, 32, 101, 108, 115, 101, 32])) = some (vs (txt (deepS 2 (j + 1))))
      rw [txt_append]; unfold deepS; rw [← repA_snoc]; rfl
    · rfl
  · have : i = 1 + r := by omega
    subst this
    have hsub : 1 + r - 1 = r := by omega
    have hsz : (deepS 2 r).length ≤ 63 * 17 := by unfold deepS; rw [repA_len]; show r * 17 ≤ _; omega
    have hez : (deepE 2 r).length ≤ 64 := by unfold deepE; rw [if_neg (by decide)]; simp
    have hs1 : (txt (deepS 2 r)).size + (txt (deepE 2 r)).size ≤ 9223372036854775807 := by rw [txt_len, txt_len]; omega
    obtain ⟨v, mp, hv, fp, hres⟩ := parse_spec (m := mj) hL hX hN hg (deepS 2 r ++ deepE 2 r)
    rw [← txt_append] at hv
    unfold deepOk at hok
    rw [hsub]
    cases hpl : parseL (deepS 2 r ++ deepE 2 r) with
    | err a c =>
      rw [hpl] at hres hok
      dsimp only at hres hok
      subst hres
      simp only [Bool.and_eq_true, decide_eq_true_eq] at hok
      obtain ⟨h40, rfl, h0, h1⟩ := hok
      refine wc_seq ?_
      refine wc_seq ?_
      refine wc_region ?_
      refine wo_n rfl (nv_move rfl rfl) rfl rfl ?_
      refine wo_n rfl (nv_move rfl rfl) rfl rfl ?_
      refine wo_n rfl (nv_lssF rfl rfl rfl (by first | assumption | decide | omega)) rfl rfl ?_
      refine wo_nil ?_
      refine thenW_n ?_
      refine wc_false rfl ?_
      refine wc_exit ?_
      refine thenW_x ?_
      refine blockW_x ?_
      refine thenW_n ?_
      refine wc_seq ?_
      refine wc_region ?_
      refine wo_n rfl (nv_move rfl rfl) rfl rfl ?_
      refine wo_n rfl (nv_move rfl rfl) rfl rfl ?_
      refine wo_n rfl (nv_sadd  rfl rfl rfl (by first | assumption | (simp only [ByteArray.size_append, txt_size, List.length]; omega))) rfl rfl ?_
      refine wo_call rfl rfl (by kernel_rfl) (hv) rfl rfl ?_
      refine wo_n rfl (nv_move rfl rfl) rfl rfl ?_
      refine wo_n rfl (nv_ex rfl rfl rfl) rfl rfl ?_
      refine wo_n rfl (nv_ex rfl rfl rfl) rfl rfl ?_
      refine wo_n rfl (nv_ex rfl rfl rfl) rfl rfl ?_
      refine wo_alloc rfl rfl rfl rfl ?_
      intro g1 m1 o1 f1 l1
      have a1 := o1
      refine wo_store rfl rfl rfl rfl (by assumption) rfl rfl (Nat.le_of_ble_eq_true rfl) rfl ?_
      intro m2 o2 f2 n2
      have c1 := o2.cell (i := 1) rfl
      refine wo_n rfl (nv_assign rfl rfl) rfl rfl ?_
      refine wo_n rfl (nv_assign rfl rfl) rfl rfl ?_
      refine wo_nil ?_
      refine thenW_n ?_
      refine wc_seq ?_
      refine wc_seq ?_
      refine wc_region ?_
      refine wo_n rfl (nv_move rfl rfl) rfl rfl ?_
      refine wo_n rfl (nv_gtrT rfl rfl rfl (by first | assumption | decide | omega)) rfl rfl ?_
      refine wo_nil ?_
      refine thenW_n ?_
      refine wc_true rfl ?_
      refine wc_seq ?_
      refine wc_region ?_
      refine wo_n rfl (nv_move rfl rfl) rfl rfl ?_
      refine wo_call rfl rfl (by kernel_rfl) (num_spec hL.no _ 401) rfl rfl ?_
      refine wo_n rfl (nv_eqlT rfl rfl rfl (by first | assumption | decide | omega)) rfl rfl ?_
      refine wo_n rfl (nv_move rfl rfl) rfl rfl ?_
      refine wo_n rfl (nv_fa rfl rfl) rfl rfl ?_
      refine wo_m rfl (mv_load rfl rfl (by assumption)) rfl rfl ?_
      first
        | refine wo_n rfl (nv_lenS rfl rfl rfl) rfl rfl ?_
        | refine wo_n rfl (nv_lenN rfl rfl rfl) rfl rfl ?_
        | refine wo_n rfl (nv_lenR (by assumption) rfl rfl rfl) rfl rfl ?_
      refine wo_n rfl (nv_eqlT rfl rfl rfl (by first | assumption | decide | omega)) rfl rfl ?_
      refine wo_n rfl (nv_pickT rfl rfl rfl) rfl rfl ?_
      refine wo_n rfl (nv_move rfl rfl) rfl rfl ?_
      refine wo_n rfl (nv_move rfl rfl) rfl rfl ?_
      refine wo_n rfl (nv_gtrT rfl rfl rfl (by first | assumption | decide | omega)) rfl rfl ?_
      refine wo_n rfl (nv_pickT rfl rfl rfl) rfl rfl ?_
      refine wo_n rfl (nv_move rfl rfl) rfl rfl ?_
      refine wo_n rfl (nv_move rfl rfl) rfl rfl ?_
      refine wo_n rfl (nv_move rfl rfl) rfl rfl ?_
      first
        | refine wo_n rfl (nv_lenL rfl rfl rfl) rfl rfl ?_
        | refine wo_n rfl (nv_lenT rfl rfl rfl) rfl rfl ?_
      refine wo_n rfl (nv_leqT rfl rfl rfl (by first | assumption | decide | omega)) rfl rfl ?_
      refine wo_n rfl (nv_pickT rfl rfl rfl) rfl rfl ?_
      refine wo_n rfl (nv_assign rfl rfl) rfl rfl ?_
      refine wo_nil ?_
      refine thenW_n ?_
      refine wc_ret ?_
      refine thenW_r ?_
      refine endW_ret rfl rfl ?_
      rfl
    | ok ops ns =>
      rw [hpl] at hres hok
      dsimp only at hres hok
      obtain ⟨ov, nv, rfl, hP⟩ := hres
      obtain ⟨oO, oN, hro, hrn, _, _, _, hlN, hlO⟩ := hP.ex
      simp only [Bool.and_eq_true, decide_eq_true_eq] at hok
      obtain ⟨h40, hne⟩ := hok
      have hpos : 0 < ns.length := by cases ns with | nil => simp at hne | cons _ _ => simp
      have hfo := RowR.form hro
      have hfn := RowR.form hrn
      rcases hfo with rfl | ⟨qo, rfl⟩ <;> rcases hfn with rfl | ⟨qn, rfl⟩
      all_goals
        try have hz0 := RowR.nil0 hrn
        refine wc_seq ?_
        refine wc_seq ?_
        refine wc_region ?_
        refine wo_n rfl (nv_move rfl rfl) rfl rfl ?_
        refine wo_n rfl (nv_move rfl rfl) rfl rfl ?_
        refine wo_n rfl (nv_lssF rfl rfl rfl (by first | assumption | decide | omega)) rfl rfl ?_
        refine wo_nil ?_
        refine thenW_n ?_
        refine wc_false rfl ?_
        refine wc_exit ?_
        refine thenW_x ?_
        refine blockW_x ?_
        refine thenW_n ?_
        refine wc_seq ?_
        refine wc_region ?_
        refine wo_n rfl (nv_move rfl rfl) rfl rfl ?_
        refine wo_n rfl (nv_move rfl rfl) rfl rfl ?_
        refine wo_n rfl (nv_sadd  rfl rfl rfl (by first | assumption | (simp only [ByteArray.size_append, txt_size, List.length]; omega))) rfl rfl ?_
        refine wo_call rfl rfl (by kernel_rfl) (hv) rfl rfl ?_
        refine wo_n rfl (nv_move rfl rfl) rfl rfl ?_
        refine wo_n rfl (nv_ex rfl rfl rfl) rfl rfl ?_
        refine wo_n rfl (nv_ex rfl rfl rfl) rfl rfl ?_
        refine wo_n rfl (nv_ex rfl rfl rfl) rfl rfl ?_
        refine wo_alloc rfl rfl rfl rfl ?_
        intro g1 m1 o1 f1 l1
        have a1 := o1
        have hr1 := hrn.fr f1 (fun _ _ _ h => h)
        refine wo_store rfl rfl rfl rfl (by assumption) rfl rfl (Nat.le_of_ble_eq_true rfl) rfl ?_
        intro m2 o2 f2 n2
        have c1 := o2.cell (i := 1) rfl
        have hr2 := hr1.fr f2 (fun x hx h e => by have h9 := hlN x h; have e9 : x = g1 := e; omega)
        refine wo_n rfl (nv_assign rfl rfl) rfl rfl ?_
        refine wo_n rfl (nv_assign rfl rfl) rfl rfl ?_
        refine wo_nil ?_
        refine thenW_n ?_
        refine wc_seq ?_
        refine wc_seq ?_
        refine wc_region ?_
        refine wo_n rfl (nv_move rfl rfl) rfl rfl ?_
        refine wo_n rfl (nv_gtrF rfl rfl rfl (by first | assumption | decide | omega)) rfl rfl ?_
        refine wo_nil ?_
        refine thenW_n ?_
        refine wc_false rfl ?_
        refine wc_skip ?_
        refine thenW_n ?_
        refine wc_seq ?_
        refine wc_region ?_
        refine wo_n rfl (nv_move rfl rfl) rfl rfl ?_
        refine wo_call rfl rfl (by kernel_rfl) (num_spec hL.no _ 0) rfl rfl ?_
        refine wo_n rfl (nv_eqlT rfl rfl rfl (by first | assumption | decide | omega)) rfl rfl ?_
        refine wo_n rfl (nv_move rfl rfl) rfl rfl ?_
        refine wo_n rfl (nv_fa rfl rfl) rfl rfl ?_
        refine wo_m rfl (mv_load rfl rfl (by assumption)) rfl rfl ?_
        first
          | refine wo_n rfl (nv_lenS rfl rfl rfl) rfl rfl ?_
          | refine wo_n rfl (nv_lenN rfl rfl rfl) rfl rfl ?_
          | refine wo_n rfl (nv_lenR (by assumption) rfl rfl rfl) rfl rfl ?_
        refine wo_n rfl (nv_gtrT rfl rfl rfl (by first | assumption | decide | omega)) rfl rfl ?_
        refine wo_n rfl (nv_pickT rfl rfl rfl) rfl rfl ?_
        refine wo_n rfl (nv_assign rfl rfl) rfl rfl ?_
        refine wo_nil ?_
        refine thenW_n ?_
        refine wc_ret ?_
        refine endW_ret rfl rfl ?_
        rfl
set_option maxHeartbeats 1000000 in
theorem deep3 (hN : New m) (hg : Good m.gl) (r : Nat) (hr : r < 64) (hok : deepOk 3 r = true) : ∃ v m', Ev Tryd.prog xb ext 3 [.res .i64 4 3, .res .i64 64 r] m v m' ∧ v = .bool true := by
  have haw := ev_ext (p := Tryd.prog) (xb := xb) (hA m hg)
  refine ev_of (fun m => hL.no _ _ m (by decide)) Tryd.func3 rfl rfl ?_
  refine wc_seq ?_
  refine wc_region ?_
  refine wo_n rfl (nv_assign rfl rfl) rfl rfl ?_
  refine wo_nil ?_
  refine thenW_n ?_
  refine wc_seq ?_
  refine wc_seq ?_
  refine wc_region ?_
  refine wo_call rfl rfl (by kernel_rfl) (haw) rfl rfl ?_
  refine wo_n rfl (nv_not rfl rfl) rfl rfl ?_
  refine wo_nil ?_
  refine thenW_n ?_
  refine wc_false rfl ?_
  refine wc_skip ?_
  refine thenW_n ?_
  refine wc_seq ?_
  refine wc_region ?_
  refine wo_n rfl (nv_move rfl rfl) rfl rfl ?_
  refine wo_n rfl (nv_bin rfl rfl rfl ((show _ = some (V.int .i64 ((r : Nat) : Int)) by kernel_rfl))) rfl rfl ?_
  refine wo_n rfl (nv_add rfl rfl rfl rfl (by first | decide | omega) (by first | decide | omega)) rfl rfl ?_
  refine wo_n rfl (nv_assign rfl rfl) rfl rfl ?_
  refine wo_nil ?_
  refine thenW_n ?_
  refine wc_seq ?_
  refine wc_region ?_
  refine wo_n rfl (nv_assign rfl rfl) rfl rfl ?_
  refine wo_n rfl (nv_assign rfl rfl) rfl rfl ?_
  refine wo_nil ?_
  refine thenW_n ?_
  refine wc_seq ?_
  refine wc_seq ?_
  refine wc_region ?_
  refine wo_n rfl (nv_assign rfl rfl) rfl rfl ?_
  refine wo_nil ?_
  refine thenW_n ?_
  refine wc_block ?_
  refine wc_loop (fun k e mj => ∃ i : Nat, k = 1 + r - i ∧ 1 ≤ i ∧ i ≤ 1 + r ∧ mj = m ∧ ELe (envL [(0, .res .i64 4 3), (5, .int .i64 (1 + (r : Int))), (6, vs (txt (deepS 3 (i - 1)))), (7, vs (txt (deepE 3 (i - 1)))), (8, .int .i64 (i : Nat))]) e) r ⟨1, by omega, by omega, by omega, rfl, ?_⟩ ?_
  · exact .cons rfl (.cons rfl (.cons rfl (.cons rfl (.cons rfl (.nil _)))))
  rintro k e mj ⟨i, rfl, hi1, hi, rfl, he⟩
  refine Wc.weak ?_ he
  clear he
  rcases Nat.lt_or_ge i (1 + r) with hlt | hge
  · have hsz : (deepS 3 (i - 1)).length ≤ 63 * 13 := by unfold deepS; rw [repA_len]; show (i - 1) * 13 ≤ _; omega
    obtain ⟨j, rfl⟩ : ∃ j, i = j + 1 := ⟨i - 1, by omega⟩
    rw [Nat.add_sub_cancel] at hsz
    have hs1 : (txt (deepS 3 j)).size + (txt [108, 101, 116, 32, 120, 32, 61, 32, 49, 32, 105, 110, 32]).size ≤ 9223372036854775807 := by rw [txt_len]; show _ + 13 ≤ _; omega
    refine wc_seq ?_
    refine wc_seq ?_
    refine wc_region ?_
    refine wo_n rfl (nv_move rfl rfl) rfl rfl ?_
    refine wo_n rfl (nv_move rfl rfl) rfl rfl ?_
    refine wo_n rfl (nv_lssT rfl rfl rfl (by first | assumption | decide | omega)) rfl rfl ?_
    refine wo_nil ?_
    refine thenW_n ?_
    refine wc_true rfl ?_
    refine wc_skip ?_
    refine thenW_n ?_
    refine wc_seq ?_
    refine wc_block ?_
    refine wc_seq ?_
    refine wc_region ?_
    refine wo_n rfl (nv_move rfl rfl) rfl rfl ?_
    refine wo_n rfl (nv_bin rfl rfl rfl ((show _ = some (V.int .i64 3) by kernel_rfl))) rfl rfl ?_
    refine wo_nil ?_
    refine thenW_n ?_
    refine wc_block ?_
    refine wc_seq ?_
    refine wc_region ?_
    refine wo_n rfl (nv_eqlF rfl rfl rfl (by first | assumption | decide | omega)) rfl rfl ?_
    refine wo_n rfl (nv_assign rfl rfl) rfl rfl ?_
    refine wo_nil ?_
    refine thenW_n ?_
    refine wc_false rfl ?_
    refine wc_seq ?_
    refine wc_region ?_
    refine wo_n rfl (nv_eqlF rfl rfl rfl (by first | assumption | decide | omega)) rfl rfl ?_
    refine wo_n rfl (nv_assign rfl rfl) rfl rfl ?_
    refine wo_nil ?_
    refine thenW_n ?_
    refine wc_false rfl ?_
    refine wc_seq ?_
    refine wc_region ?_
    refine wo_n rfl (nv_eqlF rfl rfl rfl (by first | assumption | decide | omega)) rfl rfl ?_
    refine wo_n rfl (nv_assign rfl rfl) rfl rfl ?_
    refine wo_nil ?_
    refine thenW_n ?_
    refine wc_false rfl ?_
    refine wc_region ?_
    refine wo_n rfl (nv_move rfl rfl) rfl rfl ?_
    refine wo_n rfl (nv_sadd (u := txt [108, 101, 116, 32, 120, 32, 61, 32, 49, 32, 105, 110, 32]) rfl rfl (show _ = some (vs (txt [108, 101, 116, 32, 120, 32, 61, 32, 49, 32, 105, 110, 32])) by kernel_rfl) (by first | assumption | (simp only [ByteArray.size_append, txt_size, List.length]; omega))) rfl rfl ?_
    refine wo_n rfl (nv_assign rfl rfl) rfl rfl ?_
    refine wo_nil ?_
    refine blockW_n ?_
    refine blockW_n ?_
    refine thenW_n ?_
    refine wc_region ?_
    refine wo_n rfl (nv_move rfl rfl) rfl rfl ?_
    refine wo_n rfl (nv_add rfl rfl rfl rfl (by first | decide | omega) (by first | decide | omega)) rfl rfl ?_
    refine wo_n rfl (nv_assign rfl rfl) rfl rfl ?_
    refine wo_nil ?_
    refine ⟨1 + r - (j + 1 + 1), by omega, j + 1 + 1, rfl, by omega, by omega, rfl, ?_⟩
    refine .cons rfl (.cons rfl (.cons ?_ (.cons ?_ (.cons rfl (.nil _)))))
    · show some (vs (txt (deepS 3 j) ++ txt [108, 101, 116, 32, 120, 32, 61, 32, 49, 32, 105, 110, 32])) = some (vs (txt (deepS 3 (j + 1))))
      rw [txt_append]; unfold deepS; rw [← repA_snoc]; rfl
    · rfl
  · have : i = 1 + r := by omega
    subst this
    have hsub : 1 + r - 1 = r := by omega
    have hsz : (deepS 3 r).length ≤ 63 * 13 := by unfold deepS; rw [repA_len]; show r * 13 ≤ _; omega
    have hez : (deepE 3 r).length ≤ 64 := by unfold deepE; rw [if_neg (by decide)]; simp
    have hs1 : (txt (deepS 3 r)).size + (txt (deepE 3 r)).size ≤ 9223372036854775807 := by rw [txt_len, txt_len]; omega
    obtain ⟨v, mp, hv, fp, hres⟩ := parse_spec (m := mj) hL hX hN hg (deepS 3 r ++ deepE 3 r)
    rw [← txt_append] at hv
    unfold deepOk at hok
    rw [hsub]
    cases hpl : parseL (deepS 3 r ++ deepE 3 r) with
    | err a c =>
      rw [hpl] at hres hok
      dsimp only at hres hok
      subst hres
      simp only [Bool.and_eq_true, decide_eq_true_eq] at hok
      obtain ⟨h40, rfl, h0, h1⟩ := hok
      refine wc_seq ?_
      refine wc_seq ?_
      refine wc_region ?_
      refine wo_n rfl (nv_move rfl rfl) rfl rfl ?_
      refine wo_n rfl (nv_move rfl rfl) rfl rfl ?_
      refine wo_n rfl (nv_lssF rfl rfl rfl (by first | assumption | decide | omega)) rfl rfl ?_
      refine wo_nil ?_
      refine thenW_n ?_
      refine wc_false rfl ?_
      refine wc_exit ?_
      refine thenW_x ?_
      refine blockW_x ?_
      refine thenW_n ?_
      refine wc_seq ?_
      refine wc_region ?_
      refine wo_n rfl (nv_move rfl rfl) rfl rfl ?_
      refine wo_n rfl (nv_move rfl rfl) rfl rfl ?_
      refine wo_n rfl (nv_sadd  rfl rfl rfl (by first | assumption | (simp only [ByteArray.size_append, txt_size, List.length]; omega))) rfl rfl ?_
      refine wo_call rfl rfl (by kernel_rfl) (hv) rfl rfl ?_
      refine wo_n rfl (nv_move rfl rfl) rfl rfl ?_
      refine wo_n rfl (nv_ex rfl rfl rfl) rfl rfl ?_
      refine wo_n rfl (nv_ex rfl rfl rfl) rfl rfl ?_
      refine wo_n rfl (nv_ex rfl rfl rfl) rfl rfl ?_
      refine wo_alloc rfl rfl rfl rfl ?_
      intro g1 m1 o1 f1 l1
      have a1 := o1
      refine wo_store rfl rfl rfl rfl (by assumption) rfl rfl (Nat.le_of_ble_eq_true rfl) rfl ?_
      intro m2 o2 f2 n2
      have c1 := o2.cell (i := 1) rfl
      refine wo_n rfl (nv_assign rfl rfl) rfl rfl ?_
      refine wo_n rfl (nv_assign rfl rfl) rfl rfl ?_
      refine wo_nil ?_
      refine thenW_n ?_
      refine wc_seq ?_
      refine wc_seq ?_
      refine wc_region ?_
      refine wo_n rfl (nv_move rfl rfl) rfl rfl ?_
      refine wo_n rfl (nv_gtrT rfl rfl rfl (by first | assumption | decide | omega)) rfl rfl ?_
      refine wo_nil ?_
      refine thenW_n ?_
      refine wc_true rfl ?_
      refine wc_seq ?_
      refine wc_region ?_
      refine wo_n rfl (nv_move rfl rfl) rfl rfl ?_
      refine wo_call rfl rfl (by kernel_rfl) (num_spec hL.no _ 401) rfl rfl ?_
      refine wo_n rfl (nv_eqlT rfl rfl rfl (by first | assumption | decide | omega)) rfl rfl ?_
      refine wo_n rfl (nv_move rfl rfl) rfl rfl ?_
      refine wo_n rfl (nv_fa rfl rfl) rfl rfl ?_
      refine wo_m rfl (mv_load rfl rfl (by assumption)) rfl rfl ?_
      first
        | refine wo_n rfl (nv_lenS rfl rfl rfl) rfl rfl ?_
        | refine wo_n rfl (nv_lenN rfl rfl rfl) rfl rfl ?_
        | refine wo_n rfl (nv_lenR (by assumption) rfl rfl rfl) rfl rfl ?_
      refine wo_n rfl (nv_eqlT rfl rfl rfl (by first | assumption | decide | omega)) rfl rfl ?_
      refine wo_n rfl (nv_pickT rfl rfl rfl) rfl rfl ?_
      refine wo_n rfl (nv_move rfl rfl) rfl rfl ?_
      refine wo_n rfl (nv_move rfl rfl) rfl rfl ?_
      refine wo_n rfl (nv_gtrT rfl rfl rfl (by first | assumption | decide | omega)) rfl rfl ?_
      refine wo_n rfl (nv_pickT rfl rfl rfl) rfl rfl ?_
      refine wo_n rfl (nv_move rfl rfl) rfl rfl ?_
      refine wo_n rfl (nv_move rfl rfl) rfl rfl ?_
      refine wo_n rfl (nv_move rfl rfl) rfl rfl ?_
      first
        | refine wo_n rfl (nv_lenL rfl rfl rfl) rfl rfl ?_
        | refine wo_n rfl (nv_lenT rfl rfl rfl) rfl rfl ?_
      refine wo_n rfl (nv_leqT rfl rfl rfl (by first | assumption | decide | omega)) rfl rfl ?_
      refine wo_n rfl (nv_pickT rfl rfl rfl) rfl rfl ?_
      refine wo_n rfl (nv_assign rfl rfl) rfl rfl ?_
      refine wo_nil ?_
      refine thenW_n ?_
      refine wc_ret ?_
      refine thenW_r ?_
      refine endW_ret rfl rfl ?_
      rfl
    | ok ops ns =>
      rw [hpl] at hres hok
      dsimp only at hres hok
      obtain ⟨ov, nv, rfl, hP⟩ := hres
      obtain ⟨oO, oN, hro, hrn, _, _, _, hlN, hlO⟩ := hP.ex
      simp only [Bool.and_eq_true, decide_eq_true_eq] at hok
      obtain ⟨h40, hne⟩ := hok
      have hpos : 0 < ns.length := by cases ns with | nil => simp at hne | cons _ _ => simp
      have hfo := RowR.form hro
      have hfn := RowR.form hrn
      rcases hfo with rfl | ⟨qo, rfl⟩ <;> rcases hfn with rfl | ⟨qn, rfl⟩
      all_goals
        try have hz0 := RowR.nil0 hrn
        refine wc_seq ?_
        refine wc_seq ?_
        refine wc_region ?_
        refine wo_n rfl (nv_move rfl rfl) rfl rfl ?_
        refine wo_n rfl (nv_move rfl rfl) rfl rfl ?_
        refine wo_n rfl (nv_lssF rfl rfl rfl (by first | assumption | decide | omega)) rfl rfl ?_
        refine wo_nil ?_
        refine thenW_n ?_
        refine wc_false rfl ?_
        refine wc_exit ?_
        refine thenW_x ?_
        refine blockW_x ?_
        refine thenW_n ?_
        refine wc_seq ?_
        refine wc_region ?_
        refine wo_n rfl (nv_move rfl rfl) rfl rfl ?_
        refine wo_n rfl (nv_move rfl rfl) rfl rfl ?_
        refine wo_n rfl (nv_sadd  rfl rfl rfl (by first | assumption | (simp only [ByteArray.size_append, txt_size, List.length]; omega))) rfl rfl ?_
        refine wo_call rfl rfl (by kernel_rfl) (hv) rfl rfl ?_
        refine wo_n rfl (nv_move rfl rfl) rfl rfl ?_
        refine wo_n rfl (nv_ex rfl rfl rfl) rfl rfl ?_
        refine wo_n rfl (nv_ex rfl rfl rfl) rfl rfl ?_
        refine wo_n rfl (nv_ex rfl rfl rfl) rfl rfl ?_
        refine wo_alloc rfl rfl rfl rfl ?_
        intro g1 m1 o1 f1 l1
        have a1 := o1
        have hr1 := hrn.fr f1 (fun _ _ _ h => h)
        refine wo_store rfl rfl rfl rfl (by assumption) rfl rfl (Nat.le_of_ble_eq_true rfl) rfl ?_
        intro m2 o2 f2 n2
        have c1 := o2.cell (i := 1) rfl
        have hr2 := hr1.fr f2 (fun x hx h e => by have h9 := hlN x h; have e9 : x = g1 := e; omega)
        refine wo_n rfl (nv_assign rfl rfl) rfl rfl ?_
        refine wo_n rfl (nv_assign rfl rfl) rfl rfl ?_
        refine wo_nil ?_
        refine thenW_n ?_
        refine wc_seq ?_
        refine wc_seq ?_
        refine wc_region ?_
        refine wo_n rfl (nv_move rfl rfl) rfl rfl ?_
        refine wo_n rfl (nv_gtrF rfl rfl rfl (by first | assumption | decide | omega)) rfl rfl ?_
        refine wo_nil ?_
        refine thenW_n ?_
        refine wc_false rfl ?_
        refine wc_skip ?_
        refine thenW_n ?_
        refine wc_seq ?_
        refine wc_region ?_
        refine wo_n rfl (nv_move rfl rfl) rfl rfl ?_
        refine wo_call rfl rfl (by kernel_rfl) (num_spec hL.no _ 0) rfl rfl ?_
        refine wo_n rfl (nv_eqlT rfl rfl rfl (by first | assumption | decide | omega)) rfl rfl ?_
        refine wo_n rfl (nv_move rfl rfl) rfl rfl ?_
        refine wo_n rfl (nv_fa rfl rfl) rfl rfl ?_
        refine wo_m rfl (mv_load rfl rfl (by assumption)) rfl rfl ?_
        first
          | refine wo_n rfl (nv_lenS rfl rfl rfl) rfl rfl ?_
          | refine wo_n rfl (nv_lenN rfl rfl rfl) rfl rfl ?_
          | refine wo_n rfl (nv_lenR (by assumption) rfl rfl rfl) rfl rfl ?_
        refine wo_n rfl (nv_gtrT rfl rfl rfl (by first | assumption | decide | omega)) rfl rfl ?_
        refine wo_n rfl (nv_pickT rfl rfl rfl) rfl rfl ?_
        refine wo_n rfl (nv_assign rfl rfl) rfl rfl ?_
        refine wo_nil ?_
        refine thenW_n ?_
        refine wc_ret ?_
        refine endW_ret rfl rfl ?_
        rfl
end
end Go.Proofs.YtoedpbjeangdhaaDoor.Sy

namespace Go.Proofs.YtoedpbjeangdhaaDoor.Sy
set_option maxRecDepth 100000
theorem deepA_0_0 : deepOk 0 0 = true := by kernel_rfl
theorem deepA_0_1 : deepOk 0 1 = true := by kernel_rfl
theorem deepA_0_2 : deepOk 0 2 = true := by kernel_rfl
theorem deepA_0_3 : deepOk 0 3 = true := by kernel_rfl
theorem deepA_0_4 : deepOk 0 4 = true := by kernel_rfl
theorem deepA_0_5 : deepOk 0 5 = true := by kernel_rfl
theorem deepA_0_6 : deepOk 0 6 = true := by kernel_rfl
theorem deepA_0_7 : deepOk 0 7 = true := by kernel_rfl
theorem deepA_0_8 : deepOk 0 8 = true := by kernel_rfl
theorem deepA_0_9 : deepOk 0 9 = true := by kernel_rfl
theorem deepA_0_10 : deepOk 0 10 = true := by kernel_rfl
theorem deepA_0_11 : deepOk 0 11 = true := by kernel_rfl
theorem deepA_0_12 : deepOk 0 12 = true := by kernel_rfl
theorem deepA_0_13 : deepOk 0 13 = true := by kernel_rfl
theorem deepA_0_14 : deepOk 0 14 = true := by kernel_rfl
theorem deepA_0_15 : deepOk 0 15 = true := by kernel_rfl
theorem deepA_0_16 : deepOk 0 16 = true := by kernel_rfl
theorem deepA_0_17 : deepOk 0 17 = true := by kernel_rfl
theorem deepA_0_18 : deepOk 0 18 = true := by kernel_rfl
theorem deepA_0_19 : deepOk 0 19 = true := by kernel_rfl
theorem deepA_0_20 : deepOk 0 20 = true := by kernel_rfl
theorem deepA_0_21 : deepOk 0 21 = true := by kernel_rfl
theorem deepA_0_22 : deepOk 0 22 = true := by kernel_rfl
theorem deepA_0_23 : deepOk 0 23 = true := by kernel_rfl
theorem deepA_0_24 : deepOk 0 24 = true := by kernel_rfl
theorem deepA_0_25 : deepOk 0 25 = true := by kernel_rfl
theorem deepA_0_26 : deepOk 0 26 = true := by kernel_rfl
theorem deepA_0_27 : deepOk 0 27 = true := by kernel_rfl
theorem deepA_0_28 : deepOk 0 28 = true := by kernel_rfl
theorem deepA_0_29 : deepOk 0 29 = true := by kernel_rfl
theorem deepA_0_30 : deepOk 0 30 = true := by kernel_rfl
theorem deepA_0_31 : deepOk 0 31 = true := by kernel_rfl
theorem deepH_0_0 : ∀ r, 0 ≤ r → r < 32 → deepOk 0 r = true := fun r h1 h2 => by
  rcases (show r = 0 ∨ r = 1 ∨ r = 2 ∨ r = 3 ∨ r = 4 ∨ r = 5 ∨ r = 6 ∨ r = 7 ∨ r = 8 ∨ r = 9 ∨ r = 10 ∨ r = 11 ∨ r = 12 ∨ r = 13 ∨ r = 14 ∨ r = 15 ∨ r = 16 ∨ r = 17 ∨ r = 18 ∨ r = 19 ∨ r = 20 ∨ r = 21 ∨ r = 22 ∨ r = 23 ∨ r = 24 ∨ r = 25 ∨ r = 26 ∨ r = 27 ∨ r = 28 ∨ r = 29 ∨ r = 30 ∨ r = 31 by omega) with rfl | rfl | rfl | rfl | rfl | rfl | rfl | rfl | rfl | rfl | rfl | rfl | rfl | rfl | rfl | rfl | rfl | rfl | rfl | rfl | rfl | rfl | rfl | rfl | rfl | rfl | rfl | rfl | rfl | rfl | rfl | rfl
  · exact deepA_0_0
  · exact deepA_0_1
  · exact deepA_0_2
  · exact deepA_0_3
  · exact deepA_0_4
  · exact deepA_0_5
  · exact deepA_0_6
  · exact deepA_0_7
  · exact deepA_0_8
  · exact deepA_0_9
  · exact deepA_0_10
  · exact deepA_0_11
  · exact deepA_0_12
  · exact deepA_0_13
  · exact deepA_0_14
  · exact deepA_0_15
  · exact deepA_0_16
  · exact deepA_0_17
  · exact deepA_0_18
  · exact deepA_0_19
  · exact deepA_0_20
  · exact deepA_0_21
  · exact deepA_0_22
  · exact deepA_0_23
  · exact deepA_0_24
  · exact deepA_0_25
  · exact deepA_0_26
  · exact deepA_0_27
  · exact deepA_0_28
  · exact deepA_0_29
  · exact deepA_0_30
  · exact deepA_0_31
end Go.Proofs.YtoedpbjeangdhaaDoor.Sy

namespace Go.Proofs.YtoedpbjeangdhaaDoor.Sy
set_option maxRecDepth 100000
theorem deepA_0_32 : deepOk 0 32 = true := by kernel_rfl
theorem deepA_0_33 : deepOk 0 33 = true := by kernel_rfl
theorem deepA_0_34 : deepOk 0 34 = true := by kernel_rfl
theorem deepA_0_35 : deepOk 0 35 = true := by kernel_rfl
theorem deepA_0_36 : deepOk 0 36 = true := by kernel_rfl
theorem deepA_0_37 : deepOk 0 37 = true := by kernel_rfl
theorem deepA_0_38 : deepOk 0 38 = true := by kernel_rfl
theorem deepA_0_39 : deepOk 0 39 = true := by kernel_rfl
theorem deepA_0_40 : deepOk 0 40 = true := by kernel_rfl
theorem deepA_0_41 : deepOk 0 41 = true := by kernel_rfl
theorem deepA_0_42 : deepOk 0 42 = true := by kernel_rfl
theorem deepA_0_43 : deepOk 0 43 = true := by kernel_rfl
theorem deepA_0_44 : deepOk 0 44 = true := by kernel_rfl
theorem deepA_0_45 : deepOk 0 45 = true := by kernel_rfl
theorem deepA_0_46 : deepOk 0 46 = true := by kernel_rfl
theorem deepA_0_47 : deepOk 0 47 = true := by kernel_rfl
theorem deepA_0_48 : deepOk 0 48 = true := by kernel_rfl
theorem deepA_0_49 : deepOk 0 49 = true := by kernel_rfl
theorem deepA_0_50 : deepOk 0 50 = true := by kernel_rfl
theorem deepA_0_51 : deepOk 0 51 = true := by kernel_rfl
theorem deepA_0_52 : deepOk 0 52 = true := by kernel_rfl
theorem deepA_0_53 : deepOk 0 53 = true := by kernel_rfl
theorem deepA_0_54 : deepOk 0 54 = true := by kernel_rfl
theorem deepA_0_55 : deepOk 0 55 = true := by kernel_rfl
theorem deepA_0_56 : deepOk 0 56 = true := by kernel_rfl
theorem deepA_0_57 : deepOk 0 57 = true := by kernel_rfl
theorem deepA_0_58 : deepOk 0 58 = true := by kernel_rfl
theorem deepA_0_59 : deepOk 0 59 = true := by kernel_rfl
theorem deepA_0_60 : deepOk 0 60 = true := by kernel_rfl
theorem deepA_0_61 : deepOk 0 61 = true := by kernel_rfl
theorem deepA_0_62 : deepOk 0 62 = true := by kernel_rfl
theorem deepA_0_63 : deepOk 0 63 = true := by kernel_rfl
theorem deepH_0_1 : ∀ r, 32 ≤ r → r < 64 → deepOk 0 r = true := fun r h1 h2 => by
  rcases (show r = 32 ∨ r = 33 ∨ r = 34 ∨ r = 35 ∨ r = 36 ∨ r = 37 ∨ r = 38 ∨ r = 39 ∨ r = 40 ∨ r = 41 ∨ r = 42 ∨ r = 43 ∨ r = 44 ∨ r = 45 ∨ r = 46 ∨ r = 47 ∨ r = 48 ∨ r = 49 ∨ r = 50 ∨ r = 51 ∨ r = 52 ∨ r = 53 ∨ r = 54 ∨ r = 55 ∨ r = 56 ∨ r = 57 ∨ r = 58 ∨ r = 59 ∨ r = 60 ∨ r = 61 ∨ r = 62 ∨ r = 63 by omega) with rfl | rfl | rfl | rfl | rfl | rfl | rfl | rfl | rfl | rfl | rfl | rfl | rfl | rfl | rfl | rfl | rfl | rfl | rfl | rfl | rfl | rfl | rfl | rfl | rfl | rfl | rfl | rfl | rfl | rfl | rfl | rfl
  · exact deepA_0_32
  · exact deepA_0_33
  · exact deepA_0_34
  · exact deepA_0_35
  · exact deepA_0_36
  · exact deepA_0_37
  · exact deepA_0_38
  · exact deepA_0_39
  · exact deepA_0_40
  · exact deepA_0_41
  · exact deepA_0_42
  · exact deepA_0_43
  · exact deepA_0_44
  · exact deepA_0_45
  · exact deepA_0_46
  · exact deepA_0_47
  · exact deepA_0_48
  · exact deepA_0_49
  · exact deepA_0_50
  · exact deepA_0_51
  · exact deepA_0_52
  · exact deepA_0_53
  · exact deepA_0_54
  · exact deepA_0_55
  · exact deepA_0_56
  · exact deepA_0_57
  · exact deepA_0_58
  · exact deepA_0_59
  · exact deepA_0_60
  · exact deepA_0_61
  · exact deepA_0_62
  · exact deepA_0_63
end Go.Proofs.YtoedpbjeangdhaaDoor.Sy

namespace Go.Proofs.YtoedpbjeangdhaaDoor.Sy
set_option maxRecDepth 100000
theorem deepA_1_0 : deepOk 1 0 = true := by kernel_rfl
theorem deepA_1_1 : deepOk 1 1 = true := by kernel_rfl
theorem deepA_1_2 : deepOk 1 2 = true := by kernel_rfl
theorem deepA_1_3 : deepOk 1 3 = true := by kernel_rfl
theorem deepA_1_4 : deepOk 1 4 = true := by kernel_rfl
theorem deepA_1_5 : deepOk 1 5 = true := by kernel_rfl
theorem deepA_1_6 : deepOk 1 6 = true := by kernel_rfl
theorem deepA_1_7 : deepOk 1 7 = true := by kernel_rfl
theorem deepA_1_8 : deepOk 1 8 = true := by kernel_rfl
theorem deepA_1_9 : deepOk 1 9 = true := by kernel_rfl
theorem deepA_1_10 : deepOk 1 10 = true := by kernel_rfl
theorem deepA_1_11 : deepOk 1 11 = true := by kernel_rfl
theorem deepA_1_12 : deepOk 1 12 = true := by kernel_rfl
theorem deepA_1_13 : deepOk 1 13 = true := by kernel_rfl
theorem deepA_1_14 : deepOk 1 14 = true := by kernel_rfl
theorem deepA_1_15 : deepOk 1 15 = true := by kernel_rfl
theorem deepA_1_16 : deepOk 1 16 = true := by kernel_rfl
theorem deepA_1_17 : deepOk 1 17 = true := by kernel_rfl
theorem deepA_1_18 : deepOk 1 18 = true := by kernel_rfl
theorem deepA_1_19 : deepOk 1 19 = true := by kernel_rfl
theorem deepA_1_20 : deepOk 1 20 = true := by kernel_rfl
theorem deepA_1_21 : deepOk 1 21 = true := by kernel_rfl
theorem deepA_1_22 : deepOk 1 22 = true := by kernel_rfl
theorem deepA_1_23 : deepOk 1 23 = true := by kernel_rfl
theorem deepA_1_24 : deepOk 1 24 = true := by kernel_rfl
theorem deepA_1_25 : deepOk 1 25 = true := by kernel_rfl
theorem deepA_1_26 : deepOk 1 26 = true := by kernel_rfl
theorem deepA_1_27 : deepOk 1 27 = true := by kernel_rfl
theorem deepA_1_28 : deepOk 1 28 = true := by kernel_rfl
theorem deepA_1_29 : deepOk 1 29 = true := by kernel_rfl
theorem deepA_1_30 : deepOk 1 30 = true := by kernel_rfl
theorem deepA_1_31 : deepOk 1 31 = true := by kernel_rfl
theorem deepH_1_0 : ∀ r, 0 ≤ r → r < 32 → deepOk 1 r = true := fun r h1 h2 => by
  rcases (show r = 0 ∨ r = 1 ∨ r = 2 ∨ r = 3 ∨ r = 4 ∨ r = 5 ∨ r = 6 ∨ r = 7 ∨ r = 8 ∨ r = 9 ∨ r = 10 ∨ r = 11 ∨ r = 12 ∨ r = 13 ∨ r = 14 ∨ r = 15 ∨ r = 16 ∨ r = 17 ∨ r = 18 ∨ r = 19 ∨ r = 20 ∨ r = 21 ∨ r = 22 ∨ r = 23 ∨ r = 24 ∨ r = 25 ∨ r = 26 ∨ r = 27 ∨ r = 28 ∨ r = 29 ∨ r = 30 ∨ r = 31 by omega) with rfl | rfl | rfl | rfl | rfl | rfl | rfl | rfl | rfl | rfl | rfl | rfl | rfl | rfl | rfl | rfl | rfl | rfl | rfl | rfl | rfl | rfl | rfl | rfl | rfl | rfl | rfl | rfl | rfl | rfl | rfl | rfl
  · exact deepA_1_0
  · exact deepA_1_1
  · exact deepA_1_2
  · exact deepA_1_3
  · exact deepA_1_4
  · exact deepA_1_5
  · exact deepA_1_6
  · exact deepA_1_7
  · exact deepA_1_8
  · exact deepA_1_9
  · exact deepA_1_10
  · exact deepA_1_11
  · exact deepA_1_12
  · exact deepA_1_13
  · exact deepA_1_14
  · exact deepA_1_15
  · exact deepA_1_16
  · exact deepA_1_17
  · exact deepA_1_18
  · exact deepA_1_19
  · exact deepA_1_20
  · exact deepA_1_21
  · exact deepA_1_22
  · exact deepA_1_23
  · exact deepA_1_24
  · exact deepA_1_25
  · exact deepA_1_26
  · exact deepA_1_27
  · exact deepA_1_28
  · exact deepA_1_29
  · exact deepA_1_30
  · exact deepA_1_31
end Go.Proofs.YtoedpbjeangdhaaDoor.Sy

namespace Go.Proofs.YtoedpbjeangdhaaDoor.Sy
set_option maxRecDepth 100000
theorem deepA_1_32 : deepOk 1 32 = true := by kernel_rfl
theorem deepA_1_33 : deepOk 1 33 = true := by kernel_rfl
theorem deepA_1_34 : deepOk 1 34 = true := by kernel_rfl
theorem deepA_1_35 : deepOk 1 35 = true := by kernel_rfl
theorem deepA_1_36 : deepOk 1 36 = true := by kernel_rfl
theorem deepA_1_37 : deepOk 1 37 = true := by kernel_rfl
theorem deepA_1_38 : deepOk 1 38 = true := by kernel_rfl
theorem deepA_1_39 : deepOk 1 39 = true := by kernel_rfl
theorem deepA_1_40 : deepOk 1 40 = true := by kernel_rfl
theorem deepA_1_41 : deepOk 1 41 = true := by kernel_rfl
theorem deepA_1_42 : deepOk 1 42 = true := by kernel_rfl
theorem deepA_1_43 : deepOk 1 43 = true := by kernel_rfl
theorem deepA_1_44 : deepOk 1 44 = true := by kernel_rfl
theorem deepA_1_45 : deepOk 1 45 = true := by kernel_rfl
theorem deepA_1_46 : deepOk 1 46 = true := by kernel_rfl
theorem deepA_1_47 : deepOk 1 47 = true := by kernel_rfl
theorem deepA_1_48 : deepOk 1 48 = true := by kernel_rfl
theorem deepA_1_49 : deepOk 1 49 = true := by kernel_rfl
theorem deepA_1_50 : deepOk 1 50 = true := by kernel_rfl
theorem deepA_1_51 : deepOk 1 51 = true := by kernel_rfl
theorem deepA_1_52 : deepOk 1 52 = true := by kernel_rfl
theorem deepA_1_53 : deepOk 1 53 = true := by kernel_rfl
theorem deepA_1_54 : deepOk 1 54 = true := by kernel_rfl
theorem deepA_1_55 : deepOk 1 55 = true := by kernel_rfl
theorem deepA_1_56 : deepOk 1 56 = true := by kernel_rfl
theorem deepA_1_57 : deepOk 1 57 = true := by kernel_rfl
theorem deepA_1_58 : deepOk 1 58 = true := by kernel_rfl
theorem deepA_1_59 : deepOk 1 59 = true := by kernel_rfl
theorem deepA_1_60 : deepOk 1 60 = true := by kernel_rfl
theorem deepA_1_61 : deepOk 1 61 = true := by kernel_rfl
theorem deepA_1_62 : deepOk 1 62 = true := by kernel_rfl
theorem deepA_1_63 : deepOk 1 63 = true := by kernel_rfl
theorem deepH_1_1 : ∀ r, 32 ≤ r → r < 64 → deepOk 1 r = true := fun r h1 h2 => by
  rcases (show r = 32 ∨ r = 33 ∨ r = 34 ∨ r = 35 ∨ r = 36 ∨ r = 37 ∨ r = 38 ∨ r = 39 ∨ r = 40 ∨ r = 41 ∨ r = 42 ∨ r = 43 ∨ r = 44 ∨ r = 45 ∨ r = 46 ∨ r = 47 ∨ r = 48 ∨ r = 49 ∨ r = 50 ∨ r = 51 ∨ r = 52 ∨ r = 53 ∨ r = 54 ∨ r = 55 ∨ r = 56 ∨ r = 57 ∨ r = 58 ∨ r = 59 ∨ r = 60 ∨ r = 61 ∨ r = 62 ∨ r = 63 by omega) with rfl | rfl | rfl | rfl | rfl | rfl | rfl | rfl | rfl | rfl | rfl | rfl | rfl | rfl | rfl | rfl | rfl | rfl | rfl | rfl | rfl | rfl | rfl | rfl | rfl | rfl | rfl | rfl | rfl | rfl | rfl | rfl
  · exact deepA_1_32
  · exact deepA_1_33
  · exact deepA_1_34
  · exact deepA_1_35
  · exact deepA_1_36
  · exact deepA_1_37
  · exact deepA_1_38
  · exact deepA_1_39
  · exact deepA_1_40
  · exact deepA_1_41
  · exact deepA_1_42
  · exact deepA_1_43
  · exact deepA_1_44
  · exact deepA_1_45
  · exact deepA_1_46
  · exact deepA_1_47
  · exact deepA_1_48
  · exact deepA_1_49
  · exact deepA_1_50
  · exact deepA_1_51
  · exact deepA_1_52
  · exact deepA_1_53
  · exact deepA_1_54
  · exact deepA_1_55
  · exact deepA_1_56
  · exact deepA_1_57
  · exact deepA_1_58
  · exact deepA_1_59
  · exact deepA_1_60
  · exact deepA_1_61
  · exact deepA_1_62
  · exact deepA_1_63
end Go.Proofs.YtoedpbjeangdhaaDoor.Sy

namespace Go.Proofs.YtoedpbjeangdhaaDoor.Sy
set_option maxRecDepth 100000
theorem deepA_2_0 : deepOk 2 0 = true := by kernel_rfl
theorem deepA_2_1 : deepOk 2 1 = true := by kernel_rfl
theorem deepA_2_2 : deepOk 2 2 = true := by kernel_rfl
theorem deepA_2_3 : deepOk 2 3 = true := by kernel_rfl
theorem deepA_2_4 : deepOk 2 4 = true := by kernel_rfl
theorem deepA_2_5 : deepOk 2 5 = true := by kernel_rfl
theorem deepA_2_6 : deepOk 2 6 = true := by kernel_rfl
theorem deepA_2_7 : deepOk 2 7 = true := by kernel_rfl
theorem deepA_2_8 : deepOk 2 8 = true := by kernel_rfl
theorem deepA_2_9 : deepOk 2 9 = true := by kernel_rfl
theorem deepA_2_10 : deepOk 2 10 = true := by kernel_rfl
theorem deepA_2_11 : deepOk 2 11 = true := by kernel_rfl
theorem deepA_2_12 : deepOk 2 12 = true := by kernel_rfl
theorem deepA_2_13 : deepOk 2 13 = true := by kernel_rfl
theorem deepA_2_14 : deepOk 2 14 = true := by kernel_rfl
theorem deepA_2_15 : deepOk 2 15 = true := by kernel_rfl
theorem deepA_2_16 : deepOk 2 16 = true := by kernel_rfl
theorem deepA_2_17 : deepOk 2 17 = true := by kernel_rfl
theorem deepA_2_18 : deepOk 2 18 = true := by kernel_rfl
theorem deepA_2_19 : deepOk 2 19 = true := by kernel_rfl
theorem deepA_2_20 : deepOk 2 20 = true := by kernel_rfl
theorem deepA_2_21 : deepOk 2 21 = true := by kernel_rfl
theorem deepA_2_22 : deepOk 2 22 = true := by kernel_rfl
theorem deepA_2_23 : deepOk 2 23 = true := by kernel_rfl
theorem deepA_2_24 : deepOk 2 24 = true := by kernel_rfl
theorem deepA_2_25 : deepOk 2 25 = true := by kernel_rfl
theorem deepA_2_26 : deepOk 2 26 = true := by kernel_rfl
theorem deepA_2_27 : deepOk 2 27 = true := by kernel_rfl
theorem deepA_2_28 : deepOk 2 28 = true := by kernel_rfl
theorem deepA_2_29 : deepOk 2 29 = true := by kernel_rfl
theorem deepA_2_30 : deepOk 2 30 = true := by kernel_rfl
theorem deepA_2_31 : deepOk 2 31 = true := by kernel_rfl
theorem deepH_2_0 : ∀ r, 0 ≤ r → r < 32 → deepOk 2 r = true := fun r h1 h2 => by
  rcases (show r = 0 ∨ r = 1 ∨ r = 2 ∨ r = 3 ∨ r = 4 ∨ r = 5 ∨ r = 6 ∨ r = 7 ∨ r = 8 ∨ r = 9 ∨ r = 10 ∨ r = 11 ∨ r = 12 ∨ r = 13 ∨ r = 14 ∨ r = 15 ∨ r = 16 ∨ r = 17 ∨ r = 18 ∨ r = 19 ∨ r = 20 ∨ r = 21 ∨ r = 22 ∨ r = 23 ∨ r = 24 ∨ r = 25 ∨ r = 26 ∨ r = 27 ∨ r = 28 ∨ r = 29 ∨ r = 30 ∨ r = 31 by omega) with rfl | rfl | rfl | rfl | rfl | rfl | rfl | rfl | rfl | rfl | rfl | rfl | rfl | rfl | rfl | rfl | rfl | rfl | rfl | rfl | rfl | rfl | rfl | rfl | rfl | rfl | rfl | rfl | rfl | rfl | rfl | rfl
  · exact deepA_2_0
  · exact deepA_2_1
  · exact deepA_2_2
  · exact deepA_2_3
  · exact deepA_2_4
  · exact deepA_2_5
  · exact deepA_2_6
  · exact deepA_2_7
  · exact deepA_2_8
  · exact deepA_2_9
  · exact deepA_2_10
  · exact deepA_2_11
  · exact deepA_2_12
  · exact deepA_2_13
  · exact deepA_2_14
  · exact deepA_2_15
  · exact deepA_2_16
  · exact deepA_2_17
  · exact deepA_2_18
  · exact deepA_2_19
  · exact deepA_2_20
  · exact deepA_2_21
  · exact deepA_2_22
  · exact deepA_2_23
  · exact deepA_2_24
  · exact deepA_2_25
  · exact deepA_2_26
  · exact deepA_2_27
  · exact deepA_2_28
  · exact deepA_2_29
  · exact deepA_2_30
  · exact deepA_2_31
end Go.Proofs.YtoedpbjeangdhaaDoor.Sy

namespace Go.Proofs.YtoedpbjeangdhaaDoor.Sy
set_option maxRecDepth 100000
theorem deepA_2_32 : deepOk 2 32 = true := by kernel_rfl
theorem deepA_2_33 : deepOk 2 33 = true := by kernel_rfl
theorem deepA_2_34 : deepOk 2 34 = true := by kernel_rfl
theorem deepA_2_35 : deepOk 2 35 = true := by kernel_rfl
theorem deepA_2_36 : deepOk 2 36 = true := by kernel_rfl
theorem deepA_2_37 : deepOk 2 37 = true := by kernel_rfl
theorem deepA_2_38 : deepOk 2 38 = true := by kernel_rfl
theorem deepA_2_39 : deepOk 2 39 = true := by kernel_rfl
theorem deepA_2_40 : deepOk 2 40 = true := by kernel_rfl
theorem deepA_2_41 : deepOk 2 41 = true := by kernel_rfl
theorem deepA_2_42 : deepOk 2 42 = true := by kernel_rfl
theorem deepA_2_43 : deepOk 2 43 = true := by kernel_rfl
theorem deepA_2_44 : deepOk 2 44 = true := by kernel_rfl
theorem deepA_2_45 : deepOk 2 45 = true := by kernel_rfl
theorem deepA_2_46 : deepOk 2 46 = true := by kernel_rfl
theorem deepA_2_47 : deepOk 2 47 = true := by kernel_rfl
theorem deepA_2_48 : deepOk 2 48 = true := by kernel_rfl
theorem deepA_2_49 : deepOk 2 49 = true := by kernel_rfl
theorem deepA_2_50 : deepOk 2 50 = true := by kernel_rfl
theorem deepA_2_51 : deepOk 2 51 = true := by kernel_rfl
theorem deepA_2_52 : deepOk 2 52 = true := by kernel_rfl
theorem deepA_2_53 : deepOk 2 53 = true := by kernel_rfl
theorem deepA_2_54 : deepOk 2 54 = true := by kernel_rfl
theorem deepA_2_55 : deepOk 2 55 = true := by kernel_rfl
theorem deepA_2_56 : deepOk 2 56 = true := by kernel_rfl
theorem deepA_2_57 : deepOk 2 57 = true := by kernel_rfl
theorem deepA_2_58 : deepOk 2 58 = true := by kernel_rfl
theorem deepA_2_59 : deepOk 2 59 = true := by kernel_rfl
theorem deepA_2_60 : deepOk 2 60 = true := by kernel_rfl
theorem deepA_2_61 : deepOk 2 61 = true := by kernel_rfl
theorem deepA_2_62 : deepOk 2 62 = true := by kernel_rfl
theorem deepA_2_63 : deepOk 2 63 = true := by kernel_rfl
theorem deepH_2_1 : ∀ r, 32 ≤ r → r < 64 → deepOk 2 r = true := fun r h1 h2 => by
  rcases (show r = 32 ∨ r = 33 ∨ r = 34 ∨ r = 35 ∨ r = 36 ∨ r = 37 ∨ r = 38 ∨ r = 39 ∨ r = 40 ∨ r = 41 ∨ r = 42 ∨ r = 43 ∨ r = 44 ∨ r = 45 ∨ r = 46 ∨ r = 47 ∨ r = 48 ∨ r = 49 ∨ r = 50 ∨ r = 51 ∨ r = 52 ∨ r = 53 ∨ r = 54 ∨ r = 55 ∨ r = 56 ∨ r = 57 ∨ r = 58 ∨ r = 59 ∨ r = 60 ∨ r = 61 ∨ r = 62 ∨ r = 63 by omega) with rfl | rfl | rfl | rfl | rfl | rfl | rfl | rfl | rfl | rfl | rfl | rfl | rfl | rfl | rfl | rfl | rfl | rfl | rfl | rfl | rfl | rfl | rfl | rfl | rfl | rfl | rfl | rfl | rfl | rfl | rfl | rfl
  · exact deepA_2_32
  · exact deepA_2_33
  · exact deepA_2_34
  · exact deepA_2_35
  · exact deepA_2_36
  · exact deepA_2_37
  · exact deepA_2_38
  · exact deepA_2_39
  · exact deepA_2_40
  · exact deepA_2_41
  · exact deepA_2_42
  · exact deepA_2_43
  · exact deepA_2_44
  · exact deepA_2_45
  · exact deepA_2_46
  · exact deepA_2_47
  · exact deepA_2_48
  · exact deepA_2_49
  · exact deepA_2_50
  · exact deepA_2_51
  · exact deepA_2_52
  · exact deepA_2_53
  · exact deepA_2_54
  · exact deepA_2_55
  · exact deepA_2_56
  · exact deepA_2_57
  · exact deepA_2_58
  · exact deepA_2_59
  · exact deepA_2_60
  · exact deepA_2_61
  · exact deepA_2_62
  · exact deepA_2_63
end Go.Proofs.YtoedpbjeangdhaaDoor.Sy

namespace Go.Proofs.YtoedpbjeangdhaaDoor.Sy
set_option maxRecDepth 100000
theorem deepA_3_0 : deepOk 3 0 = true := by kernel_rfl
theorem deepA_3_1 : deepOk 3 1 = true := by kernel_rfl
theorem deepA_3_2 : deepOk 3 2 = true := by kernel_rfl
theorem deepA_3_3 : deepOk 3 3 = true := by kernel_rfl
theorem deepA_3_4 : deepOk 3 4 = true := by kernel_rfl
theorem deepA_3_5 : deepOk 3 5 = true := by kernel_rfl
theorem deepA_3_6 : deepOk 3 6 = true := by kernel_rfl
theorem deepA_3_7 : deepOk 3 7 = true := by kernel_rfl
theorem deepA_3_8 : deepOk 3 8 = true := by kernel_rfl
theorem deepA_3_9 : deepOk 3 9 = true := by kernel_rfl
theorem deepA_3_10 : deepOk 3 10 = true := by kernel_rfl
theorem deepA_3_11 : deepOk 3 11 = true := by kernel_rfl
theorem deepA_3_12 : deepOk 3 12 = true := by kernel_rfl
theorem deepA_3_13 : deepOk 3 13 = true := by kernel_rfl
theorem deepA_3_14 : deepOk 3 14 = true := by kernel_rfl
theorem deepA_3_15 : deepOk 3 15 = true := by kernel_rfl
theorem deepA_3_16 : deepOk 3 16 = true := by kernel_rfl
theorem deepA_3_17 : deepOk 3 17 = true := by kernel_rfl
theorem deepA_3_18 : deepOk 3 18 = true := by kernel_rfl
theorem deepA_3_19 : deepOk 3 19 = true := by kernel_rfl
theorem deepA_3_20 : deepOk 3 20 = true := by kernel_rfl
theorem deepA_3_21 : deepOk 3 21 = true := by kernel_rfl
theorem deepA_3_22 : deepOk 3 22 = true := by kernel_rfl
theorem deepA_3_23 : deepOk 3 23 = true := by kernel_rfl
theorem deepA_3_24 : deepOk 3 24 = true := by kernel_rfl
theorem deepA_3_25 : deepOk 3 25 = true := by kernel_rfl
theorem deepA_3_26 : deepOk 3 26 = true := by kernel_rfl
theorem deepA_3_27 : deepOk 3 27 = true := by kernel_rfl
theorem deepA_3_28 : deepOk 3 28 = true := by kernel_rfl
theorem deepA_3_29 : deepOk 3 29 = true := by kernel_rfl
theorem deepA_3_30 : deepOk 3 30 = true := by kernel_rfl
theorem deepA_3_31 : deepOk 3 31 = true := by kernel_rfl
theorem deepH_3_0 : ∀ r, 0 ≤ r → r < 32 → deepOk 3 r = true := fun r h1 h2 => by
  rcases (show r = 0 ∨ r = 1 ∨ r = 2 ∨ r = 3 ∨ r = 4 ∨ r = 5 ∨ r = 6 ∨ r = 7 ∨ r = 8 ∨ r = 9 ∨ r = 10 ∨ r = 11 ∨ r = 12 ∨ r = 13 ∨ r = 14 ∨ r = 15 ∨ r = 16 ∨ r = 17 ∨ r = 18 ∨ r = 19 ∨ r = 20 ∨ r = 21 ∨ r = 22 ∨ r = 23 ∨ r = 24 ∨ r = 25 ∨ r = 26 ∨ r = 27 ∨ r = 28 ∨ r = 29 ∨ r = 30 ∨ r = 31 by omega) with rfl | rfl | rfl | rfl | rfl | rfl | rfl | rfl | rfl | rfl | rfl | rfl | rfl | rfl | rfl | rfl | rfl | rfl | rfl | rfl | rfl | rfl | rfl | rfl | rfl | rfl | rfl | rfl | rfl | rfl | rfl | rfl
  · exact deepA_3_0
  · exact deepA_3_1
  · exact deepA_3_2
  · exact deepA_3_3
  · exact deepA_3_4
  · exact deepA_3_5
  · exact deepA_3_6
  · exact deepA_3_7
  · exact deepA_3_8
  · exact deepA_3_9
  · exact deepA_3_10
  · exact deepA_3_11
  · exact deepA_3_12
  · exact deepA_3_13
  · exact deepA_3_14
  · exact deepA_3_15
  · exact deepA_3_16
  · exact deepA_3_17
  · exact deepA_3_18
  · exact deepA_3_19
  · exact deepA_3_20
  · exact deepA_3_21
  · exact deepA_3_22
  · exact deepA_3_23
  · exact deepA_3_24
  · exact deepA_3_25
  · exact deepA_3_26
  · exact deepA_3_27
  · exact deepA_3_28
  · exact deepA_3_29
  · exact deepA_3_30
  · exact deepA_3_31
end Go.Proofs.YtoedpbjeangdhaaDoor.Sy

namespace Go.Proofs.YtoedpbjeangdhaaDoor.Sy
set_option maxRecDepth 100000
theorem deepA_3_32 : deepOk 3 32 = true := by kernel_rfl
theorem deepA_3_33 : deepOk 3 33 = true := by kernel_rfl
theorem deepA_3_34 : deepOk 3 34 = true := by kernel_rfl
theorem deepA_3_35 : deepOk 3 35 = true := by kernel_rfl
theorem deepA_3_36 : deepOk 3 36 = true := by kernel_rfl
theorem deepA_3_37 : deepOk 3 37 = true := by kernel_rfl
theorem deepA_3_38 : deepOk 3 38 = true := by kernel_rfl
theorem deepA_3_39 : deepOk 3 39 = true := by kernel_rfl
theorem deepA_3_40 : deepOk 3 40 = true := by kernel_rfl
theorem deepA_3_41 : deepOk 3 41 = true := by kernel_rfl
theorem deepA_3_42 : deepOk 3 42 = true := by kernel_rfl
theorem deepA_3_43 : deepOk 3 43 = true := by kernel_rfl
theorem deepA_3_44 : deepOk 3 44 = true := by kernel_rfl
theorem deepA_3_45 : deepOk 3 45 = true := by kernel_rfl
theorem deepA_3_46 : deepOk 3 46 = true := by kernel_rfl
theorem deepA_3_47 : deepOk 3 47 = true := by kernel_rfl
theorem deepA_3_48 : deepOk 3 48 = true := by kernel_rfl
theorem deepA_3_49 : deepOk 3 49 = true := by kernel_rfl
theorem deepA_3_50 : deepOk 3 50 = true := by kernel_rfl
theorem deepA_3_51 : deepOk 3 51 = true := by kernel_rfl
theorem deepA_3_52 : deepOk 3 52 = true := by kernel_rfl
theorem deepA_3_53 : deepOk 3 53 = true := by kernel_rfl
theorem deepA_3_54 : deepOk 3 54 = true := by kernel_rfl
theorem deepA_3_55 : deepOk 3 55 = true := by kernel_rfl
theorem deepA_3_56 : deepOk 3 56 = true := by kernel_rfl
theorem deepA_3_57 : deepOk 3 57 = true := by kernel_rfl
theorem deepA_3_58 : deepOk 3 58 = true := by kernel_rfl
theorem deepA_3_59 : deepOk 3 59 = true := by kernel_rfl
theorem deepA_3_60 : deepOk 3 60 = true := by kernel_rfl
theorem deepA_3_61 : deepOk 3 61 = true := by kernel_rfl
theorem deepA_3_62 : deepOk 3 62 = true := by kernel_rfl
theorem deepA_3_63 : deepOk 3 63 = true := by kernel_rfl
theorem deepH_3_1 : ∀ r, 32 ≤ r → r < 64 → deepOk 3 r = true := fun r h1 h2 => by
  rcases (show r = 32 ∨ r = 33 ∨ r = 34 ∨ r = 35 ∨ r = 36 ∨ r = 37 ∨ r = 38 ∨ r = 39 ∨ r = 40 ∨ r = 41 ∨ r = 42 ∨ r = 43 ∨ r = 44 ∨ r = 45 ∨ r = 46 ∨ r = 47 ∨ r = 48 ∨ r = 49 ∨ r = 50 ∨ r = 51 ∨ r = 52 ∨ r = 53 ∨ r = 54 ∨ r = 55 ∨ r = 56 ∨ r = 57 ∨ r = 58 ∨ r = 59 ∨ r = 60 ∨ r = 61 ∨ r = 62 ∨ r = 63 by omega) with rfl | rfl | rfl | rfl | rfl | rfl | rfl | rfl | rfl | rfl | rfl | rfl | rfl | rfl | rfl | rfl | rfl | rfl | rfl | rfl | rfl | rfl | rfl | rfl | rfl | rfl | rfl | rfl | rfl | rfl | rfl | rfl
  · exact deepA_3_32
  · exact deepA_3_33
  · exact deepA_3_34
  · exact deepA_3_35
  · exact deepA_3_36
  · exact deepA_3_37
  · exact deepA_3_38
  · exact deepA_3_39
  · exact deepA_3_40
  · exact deepA_3_41
  · exact deepA_3_42
  · exact deepA_3_43
  · exact deepA_3_44
  · exact deepA_3_45
  · exact deepA_3_46
  · exact deepA_3_47
  · exact deepA_3_48
  · exact deepA_3_49
  · exact deepA_3_50
  · exact deepA_3_51
  · exact deepA_3_52
  · exact deepA_3_53
  · exact deepA_3_54
  · exact deepA_3_55
  · exact deepA_3_56
  · exact deepA_3_57
  · exact deepA_3_58
  · exact deepA_3_59
  · exact deepA_3_60
  · exact deepA_3_61
  · exact deepA_3_62
  · exact deepA_3_63
end Go.Proofs.YtoedpbjeangdhaaDoor.Sy

namespace Go.Proofs
open Go.Shelf
def Tryd.lays219_ren : Go.Shelf.Ren := ⟨fun | 219 => 53 | 217 => 52 | 225 => 62 | 224 => 63 | 267 => 64 | 266 => 61 | 314 => 69 | n => n, fun | 9 => 9 | 3 => 3 | 4 => 4 | 5 => 5 | 46 => 116 | 146 => 122 | 51 => 121 | n => n, fun | 1 => 1 | n => n⟩
theorem Tryd.lays219 : Go.Proofs.Lays.n219 Tryd.prog Tryd.lays219_ren := {
  mixed := by kernel_rfl
  f217 := Tryd.func52.trans (congrArg some (by kernel_rfl))
  f219 := Tryd.func53.trans (congrArg some (by kernel_rfl))
  f224 := Tryd.func63.trans (congrArg some (by kernel_rfl))
  f225 := Tryd.func62.trans (congrArg some (by kernel_rfl))
  f266 := Tryd.func61.trans (congrArg some (by kernel_rfl))
  f267 := Tryd.func64.trans (congrArg some (by kernel_rfl))
  f314 := Tryd.func69.trans (congrArg some (by kernel_rfl))
  t3 := Tryd.underlying3
  a3 := Tryd.isAgg3
  z3 := Tryd.sizeOf3
  v3 := Tryd.zeroValue3
  t4 := Tryd.underlying4
  a4 := Tryd.isAgg4
  z4 := Tryd.sizeOf4
  v4 := Tryd.zeroValue4
  t5 := Tryd.underlying5
  a5 := Tryd.isAgg5
  z5 := Tryd.sizeOf5
  v5 := Tryd.zeroValue5
  t9 := Tryd.underlying9
  a9 := Tryd.isAgg9
  z9 := Tryd.sizeOf9
  v9 := Tryd.zeroValue9
  t46 := Tryd.underlying116
  a46 := Tryd.isAgg116
  z46 := Tryd.sizeOf116
  v46 := Tryd.zeroValue116
  t51 := Tryd.underlying121
  a51 := Tryd.isAgg121
  z51 := Tryd.sizeOf121
  v51 := Tryd.zeroValue121
  t146 := Tryd.underlying122
  a146 := Tryd.isAgg122
  z146 := Tryd.sizeOf122
  v146 := Tryd.zeroValue122
  g1 := by kernel_rfl }
open Go.RowKit Go.Lib in
theorem Tryd.stringslite_Index (s sub : ByteArray) (m : Int) (w : World) (hs : s.size < 4294967281) (hm : w.cell? ⟨1, 0, none⟩ = some (.int .i64 m)) :
    Calls Tryd.prog 53 #[.string s, .string sub] w fun e w' => e = .returned (.int .i64 (Lib.index s.data.toList sub.data.toList)) ∧ w' = w := Any.stringslite_Index Tryd.lays219 s sub m w hs hm
def Tryd.laysM219_ren : Go.Shelf.Ren := ⟨fun | 219 => 53 | 217 => 52 | 225 => 62 | 224 => 63 | 267 => 64 | 266 => 61 | 314 => 69 | n => n, fun | 9 => 9 | 3 => 3 | 4 => 4 | 5 => 5 | 46 => 116 | 146 => 122 | 51 => 121 | n => n, fun | 1 => 1 | n => n⟩
theorem Tryd.laysM219 : Go.Proofs.LaysM.n219 Tryd.prog Tryd.laysM219_ren := {
  mixed := by kernel_rfl
  f217 := Tryd.func52.trans (congrArg some (by kernel_rfl))
  f219 := Tryd.func53.trans (congrArg some (by kernel_rfl))
  f224 := Tryd.func63.trans (congrArg some (by kernel_rfl))
  f225 := Tryd.func62.trans (congrArg some (by kernel_rfl))
  f266 := Tryd.func61.trans (congrArg some (by kernel_rfl))
  f267 := Tryd.func64.trans (congrArg some (by kernel_rfl))
  f314 := Tryd.func69.trans (congrArg some (by kernel_rfl))
  t3 := Tryd.underlying3
  a3 := Tryd.isAgg3
  z3 := Tryd.sizeOf3
  v3 := Tryd.zeroValue3
  t4 := Tryd.underlying4
  a4 := Tryd.isAgg4
  z4 := Tryd.sizeOf4
  v4 := Tryd.zeroValue4
  t5 := Tryd.underlying5
  a5 := Tryd.isAgg5
  z5 := Tryd.sizeOf5
  v5 := Tryd.zeroValue5
  t9 := Tryd.underlying9
  a9 := Tryd.isAgg9
  z9 := Tryd.sizeOf9
  v9 := Tryd.zeroValue9
  t46 := Tryd.underlying116
  a46 := Tryd.isAgg116
  z46 := Tryd.sizeOf116
  v46 := Tryd.zeroValue116
  t51 := Tryd.underlying121
  a51 := Tryd.isAgg121
  z51 := Tryd.sizeOf121
  v51 := Tryd.zeroValue121
  t146 := Tryd.underlying122
  a146 := Tryd.isAgg122
  z146 := Tryd.sizeOf122
  v146 := Tryd.zeroValue122
  g1 := by kernel_rfl
  i3 := by kernel_rfl
  i4 := by kernel_rfl
  i5 := by kernel_rfl
  i9 := by kernel_rfl
  i46 := by kernel_rfl
  i51 := by kernel_rfl
  i146 := by kernel_rfl
  m1 := by kernel_rfl
  s1_3 := fun w h => Go.Proofs.cell_of_shapedOpen_int (zero := #[.int .i64 0]) (t := 3) h (of_decide_eq_true (by kernel_rfl)) (by kernel_rfl) rfl (by kernel_rfl) (by kernel_rfl) Tryd.underlying3 }
end Go.Proofs

namespace Go.Proofs.YtoedpbjeangdhaaDoor.Ev
open Go Go.Ev
set_option linter.unusedVariables false
def tab : List (Nat × XK) := [(61, .indexByte), (74, .countByte), (47, .typeOf), (104, .rElem), (103, .rComparable), (105, .rImplements), (102, .rAssignable), (90, .aKind), (32, .valueOf), (33, .vType), (34, .vIsNil), (48, .vElem), (49, .vSet)]
def vars : List (Nat × Nat × V) := [(1, 0, .res .i64 1 0), (0, 0, .iface 97 (.agg [.gptr 4 44]))]
noncomputable def xb : XB := xbT Tryd.prog tab
theorem row61 : RowAt Tryd.prog 61 .indexByte Tryd.f61 := ⟨Tryd.func61, by kernel_rfl, by kernel_rfl, by kernel_rfl, fun h => by cases h⟩
theorem row74 : RowAt Tryd.prog 74 .countByte Tryd.f74 := ⟨Tryd.func74, by kernel_rfl, by kernel_rfl, by kernel_rfl, fun h => by cases h⟩
theorem row47 : RowAt Tryd.prog 47 .typeOf Tryd.f47 := ⟨Tryd.func47, by kernel_rfl, by kernel_rfl, by kernel_rfl, fun h => by cases h⟩
theorem row104 : RowAt Tryd.prog 104 .rElem Tryd.f104 := ⟨Tryd.func104, by kernel_rfl, by kernel_rfl, by kernel_rfl, fun h => by cases h⟩
theorem row103 : RowAt Tryd.prog 103 .rComparable Tryd.f103 := ⟨Tryd.func103, by kernel_rfl, by kernel_rfl, by kernel_rfl, fun h => by cases h⟩
theorem row105 : RowAt Tryd.prog 105 .rImplements Tryd.f105 := ⟨Tryd.func105, by kernel_rfl, by kernel_rfl, by kernel_rfl, fun h => by cases h⟩
theorem row102 : RowAt Tryd.prog 102 .rAssignable Tryd.f102 := ⟨Tryd.func102, by kernel_rfl, by kernel_rfl, by kernel_rfl, fun h => by cases h⟩
theorem row90 : RowAt Tryd.prog 90 .aKind Tryd.f90 := ⟨Tryd.func90, by kernel_rfl, by kernel_rfl, by kernel_rfl, fun h => by cases h⟩
theorem row32 : RowAt Tryd.prog 32 .valueOf Tryd.f32 := ⟨Tryd.func32, by kernel_rfl, by kernel_rfl, by kernel_rfl, fun h => by cases h⟩
theorem row33 : RowAt Tryd.prog 33 .vType Tryd.f33 := ⟨Tryd.func33, by kernel_rfl, by kernel_rfl, by kernel_rfl, fun h => by cases h⟩
theorem row34 : RowAt Tryd.prog 34 .vIsNil Tryd.f34 := ⟨Tryd.func34, by kernel_rfl, by kernel_rfl, by kernel_rfl, fun h => by cases h⟩
theorem row48 : RowAt Tryd.prog 48 .vElem Tryd.f48 := ⟨Tryd.func48, by kernel_rfl, by kernel_rfl, by kernel_rfl, fun h => by cases h⟩
theorem row49 : RowAt Tryd.prog 49 .vSet Tryd.f49 := ⟨Tryd.func49, by kernel_rfl, by kernel_rfl, by kernel_rfl, fun h => by cases h⟩
theorem xbOk : XBok Tryd.prog xb := xb_ok fun x hx => by
  simp only [tab, List.mem_cons, List.not_mem_nil, or_false] at hx
  rcases hx with rfl | rfl | rfl | rfl | rfl | rfl | rfl | rfl | rfl | rfl | rfl | rfl | rfl
  · exact ⟨_, row61⟩
  · exact ⟨_, row74⟩
  · exact ⟨_, row47⟩
  · exact ⟨_, row104⟩
  · exact ⟨_, row103⟩
  · exact ⟨_, row105⟩
  · exact ⟨_, row102⟩
  · exact ⟨_, row90⟩
  · exact ⟨_, row32⟩
  · exact ⟨_, row33⟩
  · exact ⟨_, row34⟩
  · exact ⟨_, row48⟩
  · exact ⟨_, row49⟩
noncomputable def ext0 : CallF := extIdx 53 1
theorem ext0Ok : CFok Tryd.prog ext0 := extIdx_ok fun s t k w h hm => Tryd.stringslite_Index s t k w h hm
theorem maxAt {W : World} (h : W.ShapedOpen Tryd.prog) : ∃ k, W.cell? ⟨1, 0, none⟩ = some (.int .i64 k) := Tryd.laysM219.s1_3 W h
theorem noNumB : (Tryd.prog.funcs.all fun fn => fn.body.isNone || !(fn.name == "runtime.NumGoroutine")) = true := by kernel_rfl
theorem noNum : NoNum Tryd.prog := fun f fn hf hb hn => by
  have := Array.all_eq_true'.1 noNumB fn (Array.mem_of_getElem? hf)
  rw [hn] at this
  cases h : fn.body with
  | none => rw [h] at hb; cases hb
  | some c => rw [h] at this; simp at this
theorem mixed : Tryd.prog.follows .mixedOrders = true := by kernel_rfl
theorem draws : DrawOkay Tryd.prog xb := drawOkay xbOk noNum mixed
theorem ok (ext : CallF) (h : CFok Tryd.prog ext) (n : Nat) : CFok Tryd.prog (funV Tryd.prog xb ext n) := funV_ok xbOk noNum draws h n
def memo0 : Nat × List V × Sl := (56, [.str 76 449953937865765044166353567075634855841265280582411279419178484766953766944035175598208298896301601961594016089577018897893736066317852013341495176030536989441380532204658237559960934, .str 1 32], ⟨9, [.str 3 7239014, .str 3 7628140, .str 3 6514034, .str 2 28265, .str 2 26217, .str 4 1852139636, .str 4 1702063205, .str 6 111516215828840, .str 4 1752459639, .str 6 121437875889522, .str 3 6581861, .str 2 28516, .str 2 28783, .str 4 1702195828, .str 5 435728179558, .str 3 7630441, .str 4 1819242338], 0, 17, 17, 1⟩)
theorem memo0_eval : slOk memo0.2.2 (funC Tryd.prog xb ext0 100000 memo0.1 memo0.2.1 (memOf vars) fun v m => some (v, m)) = true := by kernel_rfl
def memo1 : Nat × List V × Sl := (56, [.str 12 18608075407434323500137783339, .str 1 32], ⟨9, [.str 1 43, .str 1 45, .str 1 42, .str 1 47, .str 2 15677, .str 1 60], 0, 6, 6, 1⟩)
theorem memo1_eval : slOk memo1.2.2 (funC Tryd.prog xb ext0 100000 memo1.1 memo1.2.1 (memOf vars) fun v m => some (v, m)) = true := by kernel_rfl
def memo2 : Nat × List V × Sl := (44, [], ⟨9, [.str 4 1008745789, .str 3 2957355, .str 3 3088426], 0, 3, 3, 1⟩)
theorem memo2_eval : slOk memo2.2.2 (funC Tryd.prog xb ext0 100000 memo2.1 memo2.2.1 (memOf vars) fun v m => some (v, m)) = true := by kernel_rfl
def memos : List (Nat × List V × Sl) := [memo0, memo1, memo2]
noncomputable def ext1 : CallF := extTwo ext0 (extS vars memos)
theorem ext1Ok : CFok Tryd.prog ext1 := extTwo_ok ext0Ok <| extS_ok (ok _ ext0Ok 100000) fun x hx => by
  simp only [memos, List.mem_cons, List.not_mem_nil, or_false] at hx
  rcases hx with rfl | rfl | rfl
  · exact ⟨rfl, rfl, by rw [funV_of]; exact memo0_eval⟩
  · exact ⟨rfl, rfl, by rw [funV_of]; exact memo1_eval⟩
  · exact ⟨rfl, rfl, by rw [funV_of]; exact memo2_eval⟩
end Go.Proofs.YtoedpbjeangdhaaDoor.Ev
