/- Several texts in one: contracts of functions of the program, and what they lean on. In part written by a program of this session over the kit's print, in part by hand. -/
import Derived.Test.YtppcjlplihiiiaaDoorYParseBlanks0
namespace Go.Ev
open Go
set_option linter.unusedVariables false
set_option linter.unusedSimpArgs false
theorem MR.alloc {base : Nat} {m : Mem} {σ : Sg} {w : World} (h : MR base m σ w) (el : TypeId) (c : T V) (n tot : Nat) (cs : Array Value) (hsz : n ≤ cs.size) (htot : tot ≠ 0 → cs.size = tot)
    (hcs : ∀ (i : Nat) (v : V), i < n → c.get i = some v → ∃ x, cs[i]? = some x ∧ Rel σ v x) :
    MR base (m.new el c n tot).2 (σ.put m.next (w.heap.size, 0, cs.size)) { w with heap := w.heap.push (.cells cs el) } ∧ Tr base σ w (σ.put m.next (w.heap.size, 0, cs.size)) { w with heap := w.heap.push (.cells cs el) } := by
  have hns : σ m.next = none := by
    cases hs : σ m.next with
    | none => rfl
    | some x => exact absurd (h.dom _ _ hs) (Nat.lt_irrefl _)
  exact (h.hole el c n tot).fill (k := ⟨m.next, n, 0, el, tot, false, true, c⟩) ⟨by simp [Mem.new, T.get_set], rfl⟩ rfl (by simp [Mem.new, T.get_set]) rfl rfl (Nat.lt_succ_self _) hns h.nle cs hsz htot hcs
theorem MR.allocL {base : Nat} {m : Mem} {σ : Sg} {w : World} (h : MR base m σ w) (el : TypeId) (vs : List V) (n tot : Nat) (cs : Array Value) (us rest : List Value) (hr : RelL σ vs us) (hn : n ≤ vs.length) (hcs : cs.toList = us ++ rest) (htot : tot ≠ 0 → cs.size = tot) :
    MR base (m.new el (putL .nil 0 vs) n tot).2 (σ.put m.next (w.heap.size, 0, cs.size)) { w with heap := w.heap.push (.cells cs el) } ∧ Tr base σ w (σ.put m.next (w.heap.size, 0, cs.size)) { w with heap := w.heap.push (.cells cs el) } := by
  have hsize : cs.size = us.length + rest.length := by rw [← Array.length_toList, hcs, List.length_append]
  refine h.alloc el _ n tot cs (by have := hr.1; omega) htot fun i v hi hv => ?_
  rw [putL_get, if_pos (by omega), Nat.sub_zero] at hv
  obtain ⟨x, hx, hR⟩ := hr.get hv
  refine ⟨x, ?_, hR⟩
  rw [← Array.getElem?_toList, hcs, List.getElem?_append_left (List.getElem?_eq_some_iff.1 hx).1]
  exact hx
theorem growBy_le (n : Nat) : ∀ (r c : Nat), c < 2 * n + 512 → Builtin.growBy n r c ≤ 2 * n + 512 := by
  intro r
  induction r with
  | zero => intro c h; simp [Builtin.growBy]; omega
  | succ r ih =>
    intro c h
    simp only [Builtin.growBy]
    split
    · omega
    · exact ih _ (by omega)
theorem nextslicecap_le {n c : Nat} (h : c < n) : Builtin.nextslicecap n c ≤ 2 * n + 512 := by
  unfold Builtin.nextslicecap
  split
  · omega
  · split
    · omega
    · exact growBy_le n 4 c (by omega)
theorem MR.grow {base : Nat} {m : Mem} {σ : Sg} {w w' : World} (h : MR base m σ w) {b : Nat} {k kg : CB} {rest : List Nat} (hk : Live m b k) (hch : m.fams.get k.fam = some (b :: rest)) (hro : k.ro = false)
    (hkg : kg.live = true ∧ kg.fam = k.fam ∧ kg.ro = false ∧ k.n ≤ kg.n) (x : Nat × Nat × Nat)
    (hcell : CellOk base kg (σ.put m.next x) w' x.1 x.2.1 x.2.2)
    (hold : ∀ c k2 cb o tt, Live m c k2 → σ c = some (cb, o, tt) → CellOk base k2 (σ.put m.next x) w' cb o tt)
    (hsep : ∀ c k2 o tt, Live m c k2 → σ c = some (x.1, o, tt) → k2.fam = k.fam ∧ o = x.2.1)
    (hsize : w.heap.size ≤ w'.heap.size) (hmp : ∀ (cb : Nat) (us : Array MapEntry) (clk : Nat), w.heap[cb]? = some (Obj.map us clk) → w'.heap[cb]? = some (Obj.map us clk)) (hgw : ∀ cb : Nat, cb < base → w'.heap[cb]? = w.heap[cb]?)
    (hx : x.1 < w'.heap.size) (fs : T (List Nat)) (hfs : ∀ f, fs.get f = if f = k.fam then some (m.next :: b :: rest) else m.fams.get f) :
    MR base { gl := m.gl, next := m.next + 1, blks := m.blks.set m.next (.cells kg), fams := fs } (σ.put m.next x) w' := by
  have hnew := h.new m.next (Nat.le_refl _)
  have hns : σ m.next = none := by
    cases hs : σ m.next with
    | none => rfl
    | some x => exact absurd (h.dom _ _ hs) (Nat.lt_irrefl _)
  have hle : σ.le (σ.put m.next x) := Sg.le_put hns
  have hcases : ∀ c y, σ.put m.next x c = some y → (c = m.next ∧ y = x) ∨ (c ≠ m.next ∧ σ c = some y) := fun c y hy => by
    by_cases e : c = m.next
    · subst e; rw [Sg.put_self] at hy; cases hy; exact .inl ⟨rfl, rfl⟩
    · rw [Sg.put_ne _ _ e] at hy; exact .inr ⟨e, hy⟩
  have hlv : ∀ c k2, Live { gl := m.gl, next := m.next + 1, blks := m.blks.set m.next (.cells kg), fams := fs } c k2 ↔ (c = m.next ∧ k2 = kg) ∨ (c ≠ m.next ∧ Live m c k2) :=
    fun c k2 => Live.new_iff hkg.1 rfl
  have hne : ∀ c k2, Live m c k2 → c ≠ m.next := fun c k2 hc e => by have := hc.1; rw [e, hnew.1] at this; cases this
  have hsz : ∀ c k2, Live m c k2 → sizeB (m.blks.set m.next (.cells kg)) c = sizeB m.blks c := fun c k2 hc => by
    simp [sizeB, T.get_set, hne c k2 hc]
  have hg : ∀ r es, (m.blks.set m.next (.cells kg)).get r = some (.map es) → m.blks.get r = some (.map es) := fun r es hr => by
    rw [T.get_set] at hr
    split at hr
    · cases hr
    · exact hr
  have hchain := h.chain _ _ hch
  refine ⟨Nat.le_trans h.lt hsize, fun c y hy => ?_, fun c k2 cb o tt hc hs => ?_, fun r es hr y hy => ?_, fun r r' es es' hn hr hr' y y' hy hy' => ?_, fun c k2 hc => ?_, fun f ch hf => ?_, fun c c' k1 k2 cb o o' tt tt' hn hk1 hk2 hs hs' => ?_, fun c hc => ?_, fun g i v hv => ?_, fun c y hy => ?_, Nat.le_succ_of_le h.nle⟩
  · show c < m.next + 1
    rcases hcases c y hy with ⟨rfl, _⟩ | ⟨_, hy⟩
    · omega
    · have := h.dom c y hy; omega
  · rcases (hlv c k2).1 hc with ⟨rfl, rfl⟩ | ⟨hn, hc⟩
    · rw [Sg.put_self] at hs; cases hs; exact hcell
    · rw [Sg.put_ne _ _ hn] at hs; exact hold c k2 cb o tt hc hs
  · have hr := hg r es hr
    have hn : r ≠ m.next := fun e => by rw [e, hnew.1] at hr; cases hr
    rw [Sg.put_ne _ _ hn] at hy
    obtain ⟨h1, h2, us, clk, h3, h4⟩ := h.mp r es hr y hy
    exact ⟨h1, h2, us, clk, hmp _ _ _ h3, h4.mono hle⟩
  · have hr := hg r es hr
    have hr' := hg r' es' hr'
    rw [Sg.put_ne _ _ (fun e => by rw [e, hnew.1] at hr; cases hr)] at hy
    rw [Sg.put_ne _ _ (fun e => by rw [e, hnew.1] at hr'; cases hr')] at hy'
    exact h.mps r r' es es' hn hr hr' y y' hy hy'
  · rcases (hlv c k2).1 hc with ⟨rfl, rfl⟩ | ⟨hn, hc⟩
    · exact ⟨m.next :: b :: rest, by rw [hkg.2.1]; simp [hfs], by simp⟩
    · obtain ⟨ch, h1, h2⟩ := h.fam c k2 hc
      by_cases hf : k2.fam = k.fam
      · rw [hf, hch] at h1; cases h1
        exact ⟨m.next :: b :: rest, by rw [hf]; simp [hfs], List.mem_cons_of_mem _ h2⟩
      · exact ⟨ch, by simp [hfs, hf, h1], h2⟩
  · simp only [hfs] at hf
    split at hf
    · rename_i hfe
      cases hf
      refine ⟨List.nodup_cons.2 ⟨fun hm => ?_, hchain.nodup⟩, fun c hc => ?_, List.pairwise_cons.2 ⟨fun c hc => ?_, hchain.sorted.imp_of_mem fun {a b} ha hb hab => ?_⟩⟩
      · obtain ⟨k2, hk2, _⟩ := hchain.live _ hm
        exact hne _ _ hk2 rfl
      · rcases List.mem_cons.1 hc with rfl | hcr
        · exact ⟨kg, (hlv _ _).2 (.inl ⟨rfl, rfl⟩), by rw [hkg.2.1, hfe]⟩
        · obtain ⟨k2, hk2, hkf⟩ := hchain.live c hcr
          exact ⟨k2, (hlv _ _).2 (.inr ⟨hne _ _ hk2, hk2⟩), by rw [hkf, hfe]⟩
      · obtain ⟨k2, hk2, _⟩ := hchain.live c hc
        have e1 : sizeB (m.blks.set m.next (.cells kg)) m.next = kg.n := by simp [sizeB, T.get_set]
        show sizeB (m.blks.set m.next (.cells kg)) c ≤ sizeB (m.blks.set m.next (.cells kg)) m.next
        rw [hsz c k2 hk2, e1]
        rcases List.mem_cons.1 hc with rfl | hcr
        · rw [sizeB_live hk]; exact hkg.2.2.2
        · have := (List.pairwise_cons.1 hchain.sorted).1 c hcr
          rw [sizeB_live hk] at this
          exact Nat.le_trans this hkg.2.2.2
      · obtain ⟨ka, hka, _⟩ := hchain.live _ ha
        obtain ⟨kb, hkb, _⟩ := hchain.live _ hb
        show sizeB (m.blks.set m.next (.cells kg)) _ ≤ sizeB (m.blks.set m.next (.cells kg)) _
        rw [hsz _ _ hka, hsz _ _ hkb]; exact hab
    · rename_i hfe
      have hc := h.chain f ch hf
      refine ⟨hc.nodup, fun c hcc => ?_, hc.sorted.imp_of_mem fun {a b} ha hb hab => ?_⟩
      · obtain ⟨k2, hk2, hkf⟩ := hc.live c hcc
        exact ⟨k2, (hlv _ _).2 (.inr ⟨hne _ _ hk2, hk2⟩), hkf⟩
      · obtain ⟨ka, hka, _⟩ := hc.live _ ha
        obtain ⟨kb, hkb, _⟩ := hc.live _ hb
        show sizeB (m.blks.set m.next (.cells kg)) _ ≤ sizeB (m.blks.set m.next (.cells kg)) _
        rw [hsz _ _ hka, hsz _ _ hkb]; exact hab
  · rcases (hlv c k1).1 hk1 with ⟨rfl, rfl⟩ | ⟨hn1, hk1m⟩
    · rw [Sg.put_self] at hs; cases hs
      rcases (hlv c' k2).1 hk2 with ⟨rfl, rfl⟩ | ⟨hn2, hk2⟩
      · exact absurd rfl hn
      · rw [Sg.put_ne _ _ hn2] at hs'
        obtain ⟨e1, e2⟩ := hsep c' k2 o' tt' hk2 hs'
        exact .inr ⟨by rw [hkg.2.1, e1], e2.symm⟩
    · rw [Sg.put_ne _ _ hn1] at hs
      rcases (hlv c' k2).1 hk2 with ⟨rfl, rfl⟩ | ⟨hn2, hk2m⟩
      · rw [Sg.put_self] at hs'; cases hs'
        obtain ⟨e1, e2⟩ := hsep c k1 o tt hk1m hs
        exact .inr ⟨by rw [hkg.2.1, e1], e2⟩
      · rw [Sg.put_ne _ _ hn2] at hs'
        exact h.sep c c' k1 k2 cb o o' tt tt' hn hk1m hk2m hs hs'
  · have hc' : m.next + 1 ≤ c := hc
    obtain ⟨h1, h2⟩ := h.new c (by omega)
    refine ⟨by simp only [T.get_set]; rw [if_neg (by omega)]; exact h1, ?_⟩
    simp only [hfs]
    rw [if_neg]
    · exact h2
    · rintro rfl; rw [hch] at h2; cases h2
  · obtain ⟨h1, y, h2, h3⟩ := h.gl g i v hv
    exact ⟨h1, y, by rw [cell_heap (hgw g h1)]; exact h2, h3⟩
  · rcases hcases c y hy with ⟨rfl, rfl⟩ | ⟨_, hy⟩
    · exact hx
    · exact Nat.lt_of_lt_of_le (h.rng c y hy) hsize
theorem append_spec {m m' : Mem} {el : TypeId} {sz b off len cap j : Nat} {xs : List V} {v : V} (hn : ¬ len + j ≤ cap) (h : m.append el sz b off len cap j xs = some (v, m')) :
    ∃ k, m.blks.get b = some (.cells k) ∧ k.live = true ∧ k.ro = false ∧ len * sz ≤ k.n ∧ off = 0 ∧ k.fz ≤ len * sz ∧ oneL xs = true ∧ k.el = el ∧ ∃ ch pre post low rest, m.fams.get k.fam = some ch ∧ cutAt b ch = (pre, post) ∧ cutLow m.blks (len * sz) post = (low, rest) ∧
      v = .sl m.next 0 (len + j) (len + j) sz ∧
      m' = { gl := m.gl, next := m.next + 1, blks := (killL (killL (m.blks.set b (.cells { k with n := len * sz, tot := 0 })) pre) low).set m.next (.cells ⟨k.fam, (len + j) * sz, k.fz, k.el, 0, false, true, putL k.c (len * sz) xs⟩), fams := m.fams.set k.fam (m.next :: b :: rest) } := by
  unfold Mem.append at h
  rw [show Nat.ble (len + j) cap = false by rw [← Bool.not_eq_true, Nat.ble_eq]; exact hn] at h
  simp only [cond_false] at h
  split at h
  · rename_i k hk
    simp only [bif_some, Bool.and_eq_true, Bool.not_eq_true', Nat.ble_eq, Nat.beq_eq] at h
    obtain ⟨⟨⟨⟨⟨⟨⟨h1, h2⟩, h3⟩, h4⟩, h5⟩, h6⟩, h7⟩, h⟩ := h
    split at h
    · rename_i ch hch
      simp only [Option.some.injEq, Prod.mk.injEq] at h
      exact ⟨k, hk, h1, h2, h3, h4, h5, h6, h7, ch, _, _, _, _, hch, rfl, rfl, h.1.symm, h.2.symm⟩
    · cases h
  · cases h
theorem MR.cut {base : Nat} {m : Mem} {σ : Sg} {w : World} (h : MR base m σ w) {b q : Nat} {k : CB} {ch pre post low rest : List Nat} (hk : Live m b k) (hq : q ≤ k.n) (hch : m.fams.get k.fam = some ch) (hcut : cutAt b ch = (pre, post)) (hlow : cutLow m.blks q post = (low, rest)) :
    MR base { m with blks := killL (killL (m.blks.set b (.cells { k with n := q, tot := 0 })) pre) low, fams := m.fams.set k.fam (b :: rest) } σ w ∧
    (∀ c k2, Live { m with blks := killL (killL (m.blks.set b (.cells { k with n := q, tot := 0 })) pre) low, fams := m.fams.set k.fam (b :: rest) } c k2 ↔ (c = b ∧ k2 = { k with n := q, tot := 0 }) ∨ (c ≠ b ∧ c ∉ pre ∧ c ∉ low ∧ Live m c k2)) ∧
    ch = pre ++ b :: (low ++ rest) ∧ ∀ x, x ∈ rest → sizeB m.blks x ≤ q := by
  obtain ⟨ch', hch', hbin⟩ := h.fam b k hk
  rw [hch] at hch'; cases hch'
  have hchain := h.chain _ _ hch
  have e1 := cutAt_spec hbin hcut
  subst e1
  have hsort2 : post.Pairwise fun a b => sizeB m.blks b ≤ sizeB m.blks a := (List.pairwise_cons.1 (List.pairwise_append.1 hchain.sorted).2.1).2
  obtain ⟨e2, hrest⟩ := cutLow_spec hlow hsort2
  subst e2
  have hlive : ∀ c k2, Live { m with blks := killL (killL (m.blks.set b (.cells { k with n := q, tot := 0 })) pre) low, fams := m.fams.set k.fam (b :: rest) } c k2 ↔ (c = b ∧ k2 = { k with n := q, tot := 0 }) ∨ (c ≠ b ∧ c ∉ pre ∧ c ∉ low ∧ Live m c k2) := by
    intro c k2
    show LiveB (killL (killL (m.blks.set b _) pre) low) c k2 ↔ _
    rw [killL_live, killL_live]
    unfold LiveB Live
    rw [T.get_set]
    by_cases hc : c = b
    · subst hc
      have hnd := hchain.nodup
      rw [List.nodup_append] at hnd
      have hp : c ∉ pre := fun hp => hnd.2.2 c hp c (by simp) rfl
      have hl : c ∉ low := fun hl => (List.nodup_cons.1 hnd.2.1).1 (by simp [hl])
      simp only [hp, hl, not_false_eq_true, true_and, if_true, Option.some.injEq, Blk.cells.injEq, ne_eq, not_true, false_and, or_false]
      constructor
      · rintro ⟨rfl, _⟩; rfl
      · rintro rfl; exact ⟨rfl, hk.2⟩
    · simp only [if_neg hc, hc, false_and, false_or, ne_eq, not_false_eq_true, true_and]
      constructor
      · rintro ⟨a, b, c⟩; exact ⟨b, a, c⟩
      · rintro ⟨a, b, c⟩; exact ⟨b, a, c⟩
  refine ⟨?_, hlive, rfl, hrest⟩
  refine h.upd (w' := w) (k' := { k with n := q, tot := 0 }) (pre := pre) (low := low) (rest := rest) hk hch ⟨hk.2, rfl, rfl, hq, hrest⟩ hlive ?_ (fun f => by simp only [T.get_set]) rfl rfl ?_ ?_ (fun c k2 cb o tt _ _ _ hc hs => h.bl c k2 cb o tt hc hs) (Nat.le_refl _) (fun _ _ _ hc => hc) (fun _ _ => rfl)
  · intro r es
    show (killL (killL (m.blks.set b _) pre) low).get r = _ ↔ _
    rw [killL_map, killL_map, T.get_set]
    split
    · subst_vars; simp [hk.1]
    · rfl
  · intro c hc
    have hcb : c ≠ b := by rintro rfl; rw [hk.1] at hc; cases hc
    refine killL_none _ _ _ (killL_none _ _ _ ?_)
    rw [T.get_set, if_neg hcb]; exact hc
  · intro cb o tt hs
    have hold := h.bl b k cb o tt hk hs
    refine ⟨fun i v hi hv => hold.cell i v (Nat.lt_of_lt_of_le hi hq) hv, fun hr => ?_⟩
    obtain ⟨g1, cs, lo, hi, g2, gt, g3, g4, g5⟩ := hold.own hr
    exact ⟨g1, cs, lo, hi, g2, gt, fun ht => absurd rfl ht, by show o + q ≤ _; omega, g5⟩
end Go.Ev

namespace Go.Ev
open Go
set_option linter.unusedVariables false
set_option linter.unusedSimpArgs false
theorem run_bind {α β : Type} (p : Program) (e : Sem α) (f : α → Sem β) : ∀ w, (e.bind f).run p w = match e.run p w with | .ok a w' => (f a).run p w' | .halt h w' => .halt h w' := by
  induction e with
  | pure a => intro w; rfl
  | load m a k ih =>
    intro w
    simp only [Sem.bind, Sem.run]
    split
    · exact ih _ w
    · split
      · exact ih _ w
      · rfl
  | store m a v k ih =>
    intro w
    cases v <;> simp only [Sem.bind, Sem.run] <;> (try rfl) <;> (split <;> (try split) <;> (first | exact ih _ | rfl))
  | new o k ih => intro w; simp only [Sem.bind, Sem.run]; exact ih _ _
  | shape r k ih => intro w; simp only [Sem.bind, Sem.run]; exact ih _ _
  | freeze a n k ih => intro w; simp only [Sem.bind, Sem.run]; exact ih _
  | frozen a k ih => intro w; simp only [Sem.bind, Sem.run]; exact ih _ _
  | getObj r k ih => intro w; simp only [Sem.bind, Sem.run]; split <;> (first | exact ih _ _ | rfl)
  | setObj r o k ih => intro w; simp only [Sem.bind, Sem.run]; split <;> (first | exact ih _ | rfl)
  | choose q k ih => intro w; simp only [Sem.bind, Sem.run]; split <;> exact ih _ _
  | sys c k ih => intro w; simp only [Sem.bind, Sem.run]; exact ih _ _
  | program k ih => intro w; simp only [Sem.bind, Sem.run]; exact ih _ _
  | mark m k ih => intro w; simp only [Sem.bind, Sem.run]; exact ih _
  | halt h => intro w; rfl
theorem run_bind' {α β : Type} (p : Program) (e : Sem α) (f : α → Sem β) (w : World) : (e >>= f).run p w = match e.run p w with | .ok a w' => (f a).run p w' | .halt h w' => .halt h w' := run_bind p e f w
theorem run_ok {α β : Type} {p : Program} {e : Sem α} {f : α → Sem β} {w w' : World} {a : α} (h : e.run p w = .ok a w') : (e >>= f).run p w = (f a).run p w' := by rw [run_bind', h]
theorem run_pure {α : Type} (p : Program) (a : α) (w : World) : (pure a : Sem α).run p w = .ok a w := rfl
theorem run_program (p : Program) (w : World) : program.run p w = .ok p w := rfl
theorem run_underlying {p : Program} {t : TypeId} {d : TypeDesc} (h : p.underlying t = some d) (w : World) : (underlying t).run p w = .ok d w := by
  show (Sem.bind program _).run p w = _
  rw [run_bind, run_program]
  simp only [h]; rfl
theorem run_typeInfo {p : Program} {t : TypeId} {i : TypeInfo} (h : p.info? t = some i) (w : World) : (typeInfo t).run p w = .ok i w := by
  show (Sem.bind program _).run p w = _
  rw [run_bind, run_program]
  simp only [h]; rfl
theorem run_sizeOf {p : Program} {t : TypeId} {i : TypeInfo} (h : p.info? t = some i) (w : World) : (sizeOf t).run p w = .ok (p.cellsOf t) w := by
  show (Sem.bind (typeInfo t) _).run p w = _
  rw [run_bind, run_typeInfo h]
  simp [Program.cellsOf, h, run_pure]
theorem info_of_underlying {p : Program} {t : TypeId} {d : TypeDesc} (h : p.underlying t = some d) : ∃ i, p.info? t = some i := by
  unfold Program.underlying at h
  cases hi : p.info? t with
  | none => rw [hi] at h; cases h
  | some i => exact ⟨i, rfl⟩
theorem run_zero {p : Program} {t : TypeId} {z : V} (σ : Sg) (h : zeroV p t = some z) (w : World) : ∃ x, (zeroValue t).run p w = .ok x w ∧ Rel σ z x ∧ ∃ i, p.info? t = some i := by
  unfold zeroV at h
  split at h
  · rename_i i hi
    split at h
    · rename_i x hx
      refine ⟨x, ?_, ofValue_rel σ x z h, i, hi⟩
      show (Sem.bind (typeInfo t) _).run p w = _
      rw [run_bind, run_typeInfo hi]
      simp only [hx]; rfl
    · cases h
  · cases h
theorem run_isAgg {p : Program} {t : TypeId} {d : TypeDesc} (h : p.underlying t = some d) (w : World) : (isAgg t).run p w = .ok (isAggT p t) w := by
  show (Sem.bind (underlying t) _).run p w = _
  rw [run_bind, run_underlying h]
  cases d <;> simp [isAggT, h, run_pure]
theorem run_part {p : Program} {t : TypeId} {cs : List V} {us : Array Value} {off : Nat} {v : V} {σ : Sg} (hr : RelL σ cs us.toList) (h : partV p t cs off = some v) (w : World) :
    ∃ x, (part t us off).run p w = .ok x w ∧ Rel σ v x := by
  unfold partV at h
  cases hd : p.underlying t with
  | none => rw [hd] at h; cases h
  | some d =>
    obtain ⟨i, hi⟩ := info_of_underlying hd
    rw [hd] at h
    have hrun : (part t us off).run p w = (if isAggT p t then (do pure (.agg (us.extract off (off + (← sizeOf t)))) : Sem Value) else match us[off]? with | some v => pure v | none => stuck "part: no such cell").run p w := by
      show (Sem.bind (isAgg t) _).run p w = _
      rw [run_bind, run_isAgg hd]
      rfl
    have hext : ∀ v, v = V.agg ((cs.drop off).take (p.cellsOf t)) → isAggT p t = true → ∃ x, (part t us off).run p w = .ok x w ∧ Rel σ v x := by
      rintro v rfl ha
      refine ⟨.agg (us.extract off (off + p.cellsOf t)), ?_, ?_⟩
      · rw [hrun, ha, if_pos rfl, run_ok (run_sizeOf hi w)]; rfl
      · refine Rel.aggL.2 ?_
        have : (us.extract off (off + p.cellsOf t)).toList = (us.toList.drop off).take (p.cellsOf t) := by
          rw [Array.toList_extract, List.extract_eq_take_drop]
          simp
        rw [this]
        exact (hr.drop off).take _
    have hcell : cs[off]? = some v → isAggT p t = false → ∃ x, (part t us off).run p w = .ok x w ∧ Rel σ v x := fun hc ha => by
      obtain ⟨x, hx, hR⟩ := hr.get hc
      rw [Array.getElem?_toList] at hx
      exact ⟨x, by rw [hrun, ha]; simp [hx, run_pure], hR⟩
    cases d <;> first
      | (exact hext v (Option.some.inj h).symm (by simp [isAggT, hd]))
      | (exact hcell h (by simp [isAggT, hd]))
theorem run_pureRun {α : Type} {p : Program} : ∀ {e : Sem α} {a : α}, pureRun p e = some a → ∀ w, e.run p w = .ok a w := by
  intro e
  induction e with
  | pure b => intro a h w; simp [pureRun] at h; subst h; rfl
  | program k ih => intro a h w; exact ih p (by simpa [pureRun] using h) w
  | mark m k ih => intro a h w; exact ih (by simpa [pureRun] using h) w
  | _ => intro a h; simp [pureRun] at h
def OpR (σ : Sg) (e : Env) (ρ : Operand → Value) (xs : List Operand) : Prop := ∀ x, x ∈ xs → ∀ v, evalO e x = some v → Rel σ v (ρ x)
theorem evalL_rel {σ : Sg} {e : Env} {ρ : Operand → Value} : ∀ {xs : List Operand} {vs : List V}, OpR σ e ρ xs → evalL e xs = some vs → RelL σ vs (xs.map ρ) := by
  intro xs
  induction xs with
  | nil => intro vs _ h; simp [evalL] at h; subst h; exact .nil σ
  | cons x xs ih =>
    intro vs hO h
    simp only [evalL] at h
    split at h
    · rename_i v hv
      split at h
      · rename_i us hus
        cases h
        exact .cons (hO x (List.mem_cons_self ..) v hv) (ih (fun y hy => hO y (List.mem_cons_of_mem _ hy)) hus)
      · cases h
    · cases h
def PartsR (σ : Sg) (vs : List (Nat × V)) (us : List (Nat × Value)) : Prop := vs.length = us.length ∧ ∀ (i : Nat) (a : Nat × V) (b : Nat × Value), vs[i]? = some a → us[i]? = some b → a.1 = b.1 ∧ Rel σ a.2 b.2
theorem PartsR.of_cons {σ : Sg} {a : Nat × V} {vs : List (Nat × V)} {us : List (Nat × Value)} (h : PartsR σ (a :: vs) us) : ∃ b us', us = b :: us' ∧ a.1 = b.1 ∧ Rel σ a.2 b.2 ∧ PartsR σ vs us' := by
  cases us with
  | nil => have := h.1; simp at this
  | cons b us' => exact ⟨b, us', rfl, (h.2 0 a b rfl rfl).1, (h.2 0 a b rfl rfl).2, by have := h.1; simpa using this, fun i x y hx hy => h.2 (i + 1) x y (by simpa using hx) (by simpa using hy)⟩
theorem evalParts_rel {σ : Sg} {e : Env} {ρ : Operand → Value} : ∀ {xs : List (Nat × Operand)} {vs : List (Nat × V)}, OpR σ e ρ (xs.map (·.2)) → evalParts e xs = some vs → PartsR σ vs (xs.map fun (i, x) => (i, ρ x)) := by
  intro xs
  induction xs with
  | nil => intro vs _ h; simp [evalParts] at h; subst h; exact ⟨rfl, fun i a b h => by simp at h⟩
  | cons x xs ih =>
    intro vs hO h
    obtain ⟨j, x⟩ := x
    simp only [evalParts] at h
    split at h
    · rename_i v vs' hv hvs
      cases h
      have := ih (fun y hy => hO y (List.mem_cons_of_mem _ hy)) hvs
      refine ⟨by simpa using this.1, fun i a b ha hb => ?_⟩
      cases i with
      | zero => simp at ha hb; subst ha hb; exact ⟨rfl, hO x (by simp) v hv⟩
      | succ i => exact this.2 i a b (by simpa using ha) (by simpa using hb)
    · cases h
theorem foldl_set : ∀ (us : List Value) (cells : Array Value) (off j : Nat), off + j + us.length ≤ cells.size →
    ((us.zipIdx j).foldl (fun (cs : Array Value) (c : Value × Nat) => cs.setIfInBounds (off + c.2) c.1) cells).toList = cells.toList.take (off + j) ++ us ++ cells.toList.drop (off + j + us.length) := by
  intro us
  induction us with
  | nil => intro cells off j h; simp
  | cons u us ih =>
    intro cells off j h
    simp only [List.length_cons] at h
    simp only [List.zipIdx_cons, List.foldl_cons]
    rw [ih _ off (j + 1) (by simp; omega)]
    simp only [Array.toList_setIfInBounds, List.length_cons]
    apply List.ext_getElem?
    intro q
    have hlen : cells.toList.length = cells.size := by simp
    by_cases h1 : q < off + j
    · rw [List.append_assoc, List.append_assoc, List.getElem?_append_left (by simp; omega), List.getElem?_append_left (by simp; omega), List.getElem?_take, List.getElem?_take, if_pos (by omega), if_pos h1, List.getElem?_set_ne (by omega)]
    · by_cases h2 : q = off + j
      · subst h2
        rw [List.append_assoc, List.getElem?_append_left (by simp; omega), List.getElem?_take, if_pos (by omega), List.getElem?_set_self (by omega), List.append_assoc, List.getElem?_append_right (by simp; omega)]
        simp
        rw [show off + j - min (off + j) cells.size = 0 by omega]
        rfl
      · have e1 : (List.take (off + (j + 1)) (cells.toList.set (off + j) u)).length = off + (j + 1) := by simp; omega
        have e2 : (List.take (off + j) cells.toList).length = off + j := by simp; omega
        obtain ⟨d, rfl⟩ : ∃ d, q = off + (j + 1) + d := ⟨q - (off + (j + 1)), by omega⟩
        have L : (List.take (off + (j + 1)) (cells.toList.set (off + j) u) ++ us ++ List.drop (off + (j + 1) + us.length) (cells.toList.set (off + j) u))[off + (j + 1) + d]? = (us ++ List.drop (off + (j + 1) + us.length) (cells.toList.set (off + j) u))[d]? := by
          rw [List.append_assoc, List.getElem?_append_right (by omega), e1, show off + (j + 1) + d - (off + (j + 1)) = d by omega]
        have R : (List.take (off + j) cells.toList ++ u :: us ++ List.drop (off + j + (us.length + 1)) cells.toList)[off + (j + 1) + d]? = (us ++ List.drop (off + j + (us.length + 1)) cells.toList)[d]? := by
          rw [List.append_assoc, List.getElem?_append_right (by omega), e2, show off + (j + 1) + d - (off + j) = d + 1 by omega, List.cons_append, List.getElem?_cons_succ]
        rw [L, R]
        by_cases h3 : d < us.length
        · rw [List.getElem?_append_left h3, List.getElem?_append_left h3]
        · rw [List.getElem?_append_right (by omega), List.getElem?_append_right (by omega), List.getElem?_drop, List.getElem?_drop, List.getElem?_set_ne (by omega)]
          congr 1; omega
theorem fill_rel {σ : Sg} {place : Nat → Option (Nat × Nat)} : ∀ {vs : List (Nat × V)} {us : List (Nat × Value)} {cs out : List V} {cells : Array Value}, PartsR σ vs us → RelL σ cs cells.toList → buildParts place vs cs = some out →
    ∃ cells', Instr.fill place cells us = some cells' ∧ RelL σ out cells'.toList := by
  intro vs
  induction vs with
  | nil =>
    intro us cs out cells hP hr h
    have : us = [] := List.eq_nil_of_length_eq_zero hP.1.symm
    subst this
    simp [buildParts] at h; subst h
    exact ⟨cells, rfl, hr⟩
  | cons a vs ih =>
    intro us cs out cells hP hr h
    obtain ⟨b, us', rfl, e1, hR, hP'⟩ := hP.of_cons
    obtain ⟨i, v⟩ := a
    obtain ⟨i', x⟩ := b
    dsimp only at e1 hR
    subst e1
    simp only [buildParts] at h
    split at h
    · rename_i off sz hpl
      simp only [bif_some, Bool.and_eq_true, Nat.beq_eq, Nat.ble_eq] at h
      obtain ⟨⟨h1, h2⟩, h3⟩ := h
      have hc := hR.cells
      have hsz : x.cells.size = sz := by rw [← Array.length_toList, ← hc.1, h1]
      have hcsz : cells.size = cs.length := by rw [hr.1, Array.length_toList]
      simp only [Instr.fill, hpl]
      rw [if_neg (by simp only [Bool.or_eq_true, decide_eq_true_eq]; omega)]
      have hf : ((x.cells.zipIdx.foldl (fun cs (c, j) => cs.setIfInBounds (off + j) c) cells)).toList = cells.toList.take off ++ x.cells.toList ++ cells.toList.drop (off + x.cells.size) := by
        have := foldl_set x.cells.toList cells off 0 (by simp; omega)
        rw [Nat.add_zero, Array.length_toList] at this
        rw [← this, ← Array.foldl_toList, Array.toList_zipIdx]
      refine ih hP' ?_ h3
      rw [hf]
      unfold fillV
      have hlen : v.cells.length = x.cells.size := by rw [hc.1, Array.length_toList]
      rw [hlen]
      exact ((hr.take off).append hc).append (hr.drop _)
    · cases h
end Go.Ev

namespace Go.Ev
open Go
set_option linter.unusedVariables false
set_option linter.unusedSimpArgs false
theorem intEq_iff (a b : Int) : intEq a b = true ↔ a = b := by
  cases a <;> cases b <;> simp [intEq] <;> omega
theorem intEq_eq (a b : Int) : intEq a b = (a == b) := by
  rw [Bool.eq_iff_iff, intEq_iff, beq_iff_eq]
theorem intLt_iff (a b : Int) : intLt a b = true ↔ a < b := by
  cases a with
  | ofNat a => cases b with
    | ofNat b => simp only [intLt, Nat.blt_eq, Int.ofNat_eq_natCast, Int.negSucc_eq]; omega
    | negSucc b => simp only [intLt, Bool.false_eq_true, false_iff, Int.ofNat_eq_natCast, Int.negSucc_eq]; omega
  | negSucc a => cases b with
    | ofNat b => simp only [intLt, true_iff, Int.ofNat_eq_natCast, Int.negSucc_eq]; omega
    | negSucc b => simp only [intLt, Nat.blt_eq, Int.ofNat_eq_natCast, Int.negSucc_eq]; omega
theorem intLt_eq (a b : Int) : intLt a b = decide (a < b) := by
  rw [Bool.eq_iff_iff, intLt_iff, decide_eq_true_iff]
theorem intAdd_eq (a b : Int) : intAdd a b = a + b := by
  unfold intAdd; split <;> rfl
theorem intSub_eq (a b : Int) : intSub a b = a - b := by
  unfold intSub
  split
  · rename_i a b
    simp only [cond_eq_ite, Nat.ble_eq]
    split
    · simp only [Int.ofNat_eq_natCast]; omega
    · rename_i h
      simp only [Int.ofNat_eq_natCast, Int.negSucc_eq]; omega
  · rfl
theorem wrapI_eq (k : IntKind) (n : Int) : wrapI k n = k.wrap n := by
  unfold wrapI
  split
  · rename_i a
    simp only [cond_eq_ite, Nat.blt_eq]
    split
    · rename_i h
      have e : (2 : Int) ^ IntKind.i64.bits = 18446744073709551616 := by decide
      have e2 : (2 : Int) ^ (IntKind.i64.bits - 1) = 9223372036854775808 := by decide
      unfold IntKind.wrap
      simp only [e, e2]
      rw [show (Int.ofNat a) % 18446744073709551616 = Int.ofNat a by simp only [Int.ofNat_eq_natCast]; omega]
      rw [if_neg (by simp [IntKind.signed]; omega)]
    · rfl
  · rename_i a
    have e : (2 : Int) ^ IntKind.u8.bits = 256 := by decide
    unfold IntKind.wrap
    simp only [e]
    rw [if_neg (by simp [IntKind.signed])]
    simp only [Int.ofNat_eq_natCast]; omega
  · rfl
theorem kindEq_iff (a b : IntKind) : kindEq a b = true ↔ a = b := by cases a <;> cases b <;> simp [kindEq]
theorem toList_loop (s : ByteArray) : ∀ (d i : Nat) (r : List UInt8), s.size - i = d → ByteArray.toList.loop s i r = r.reverse ++ s.data.toList.drop i := by
  intro d
  induction d with
  | zero =>
    intro i r h
    unfold ByteArray.toList.loop
    rw [if_neg (by omega), List.drop_eq_nil_of_le (by rw [Array.length_toList]; show s.size ≤ i; omega)]
    simp
  | succ d ih =>
    intro i r h
    unfold ByteArray.toList.loop
    have hi : i < s.data.toList.length := by rw [Array.length_toList]; show i < s.size; omega
    rw [if_pos (by omega), ih (i + 1) _ (by omega), List.reverse_cons, List.append_assoc, List.drop_eq_getElem_cons hi]
    have : s.get! i = s.data.toList[i] := by
      cases s with | mk d => simp [ByteArray.get!]; rw [getElem!_pos d i (by simpa using hi)]
    rw [this]; rfl
theorem toList_data (s : ByteArray) : s.toList = s.data.toList := by
  have := toList_loop s (s.size - 0) 0 [] rfl
  simpa [ByteArray.toList] using this
theorem size_length (s : ByteArray) : s.data.toList.length = s.size := by rw [Array.length_toList]; rfl
theorem pow8 (n : Nat) : 2 ^ (8 * n) = 256 ^ n := by rw [Nat.pow_mul]
theorem byteAt_zero (x r : Nat) (h : x < 256) : byteAt (x + 256 * r) 0 = x := by simp [byteAt]; omega
theorem byteAt_succ (x r i : Nat) (h : x < 256) : byteAt (x + 256 * r) (i + 1) = byteAt r i := by
  unfold byteAt
  rw [Nat.shiftRight_eq_div_pow, Nat.shiftRight_eq_div_pow, pow8, pow8, Nat.pow_succ, Nat.mul_comm (256 ^ i) 256, ← Nat.div_div_eq_div_mul]
  rw [show (x + 256 * r) / 256 = r by omega]
theorem byteAt_packL : ∀ (l : List Nat) (i : Nat), (∀ x, x ∈ l → x < 256) → i < l.length → l[i]? = some (byteAt (packL l) i) := by
  intro l
  induction l with
  | nil => intro i _ h; simp at h
  | cons x l ih =>
    intro i hb h
    have hx := hb x (List.mem_cons_self ..)
    cases i with
    | zero => simp only [packL]; rw [byteAt_zero _ _ hx]; rfl
    | succ i =>
      simp only [packL]
      rw [byteAt_succ _ _ _ hx, List.getElem?_cons_succ]
      exact ih i (fun y hy => hb y (List.mem_cons_of_mem _ hy)) (by simpa using h)
theorem packL_append : ∀ (l r : List Nat), packL (l ++ r) = packL l + packL r <<< (8 * l.length) := by
  intro l
  induction l with
  | nil => intro r; simp [packL]
  | cons x l ih =>
    intro r
    simp only [List.cons_append, packL, ih, List.length_cons]
    rw [Nat.shiftLeft_eq, Nat.shiftLeft_eq, pow8, pow8, Nat.pow_succ, Nat.mul_add, Nat.mul_left_comm 256 (packL r), Nat.mul_comm 256 (256 ^ l.length)]
    omega
theorem packL_drop : ∀ (l : List Nat) (n : Nat), (∀ x, x ∈ l → x < 256) → packL (l.drop n) = packL l >>> (8 * n) := by
  intro l
  induction l with
  | nil => intro n _; simp [packL]
  | cons x l ih =>
    intro n hb
    cases n with
    | zero => simp
    | succ n =>
      rw [List.drop_succ_cons, ih n fun y hy => hb y (List.mem_cons_of_mem _ hy), Nat.shiftRight_eq_div_pow, Nat.shiftRight_eq_div_pow, pow8, pow8, Nat.pow_succ, Nat.mul_comm (256 ^ n) 256, ← Nat.div_div_eq_div_mul]
      simp only [packL]
      have hx := hb x (List.mem_cons_self ..)
      rw [show (x + 256 * packL l) / 256 = packL l by omega]
theorem packL_take : ∀ (l : List Nat) (n : Nat), (∀ x, x ∈ l → x < 256) → packL (l.take n) = packL l % 256 ^ n := by
  intro l
  induction l with
  | nil => intro n _; simp [packL]
  | cons x l ih =>
    intro n hb
    have hx := hb x (List.mem_cons_self ..)
    cases n with
    | zero => simp [packL, Nat.mod_one]
    | succ n =>
      rw [List.take_succ_cons]
      simp only [packL]
      rw [ih n fun y hy => hb y (List.mem_cons_of_mem _ hy), Nat.pow_succ, Nat.mul_comm (256 ^ n) 256, Nat.mod_mul]
      rw [show (x + 256 * packL l) % 256 = x by omega, show (x + 256 * packL l) / 256 = packL l by omega]
theorem packL_inj : ∀ (l r : List Nat), (∀ x, x ∈ l → x < 256) → (∀ x, x ∈ r → x < 256) → l.length = r.length → packL l = packL r → l = r := by
  intro l
  induction l with
  | nil => intro r _ _ h _; exact (List.eq_nil_of_length_eq_zero h.symm).symm
  | cons x l ih =>
    intro r hl hr h he
    cases r with
    | nil => simp at h
    | cons y r =>
      have hx := hl x (List.mem_cons_self ..)
      have hy := hr y (List.mem_cons_self ..)
      simp only [packL] at he
      have e1 : x = y := by omega
      have e2 : packL l = packL r := by omega
      rw [e1, ih r (fun z hz => hl z (List.mem_cons_of_mem _ hz)) (fun z hz => hr z (List.mem_cons_of_mem _ hz)) (by simpa using h) e2]
def natsOf (s : ByteArray) : List Nat := s.data.toList.map (·.toNat)
theorem natsOf_lt (s : ByteArray) : ∀ x, x ∈ natsOf s → x < 256 := by
  intro x hx
  obtain ⟨b, _, rfl⟩ := List.mem_map.1 hx
  exact b.toNat_lt
theorem natsOf_length (s : ByteArray) : (natsOf s).length = s.size := by rw [natsOf, List.length_map, size_length]
theorem bytesOf_natsOf (s : ByteArray) : bytesOf s = packL (natsOf s) := rfl
theorem natsOf_inj {s t : ByteArray} (h : natsOf s = natsOf t) : s = t := by
  have : s.data.toList = t.data.toList := by
    unfold natsOf at h
    exact List.map_inj_right (fun a b hab => UInt8.toNat_inj.1 hab) |>.1 h
  cases s; cases t
  simp at this ⊢
  exact this
theorem strEq_eq (x y : ByteArray) : strEq x.size (bytesOf x) y.size (bytesOf y) = (x.toList == y.toList) := by
  rw [Bool.eq_iff_iff, beq_iff_eq, toList_data, toList_data]
  unfold strEq
  rw [Bool.and_eq_true, Nat.beq_eq, Nat.beq_eq]
  constructor
  · rintro ⟨h1, h2⟩
    have := packL_inj (natsOf x) (natsOf y) (natsOf_lt x) (natsOf_lt y) (by rw [natsOf_length, natsOf_length, h1]) h2
    rw [natsOf_inj this]
  · intro h
    have : x = y := by cases x; cases y; simp at h ⊢; exact h
    subst this
    exact ⟨rfl, rfl⟩
theorem beq_bytes (x y : ByteArray) : (x == y) = (x.data == y.data) := by cases x; cases y; rfl
theorem strEq_beq (x y : ByteArray) : strEq x.size (bytesOf x) y.size (bytesOf y) = (x == y) := by
  rw [strEq_eq, beq_bytes, Bool.eq_iff_iff, beq_iff_eq, beq_iff_eq, toList_data, toList_data]
  exact Array.toList_inj
theorem nat_get (s : ByteArray) {i : Nat} (h : i < s.size) : (natsOf s)[i]? = some (byteAt (bytesOf s) i) := byteAt_packL _ _ (natsOf_lt s) (by rw [natsOf_length]; exact h)
theorem byte_get (s : ByteArray) {i : Nat} (h : i < s.size) : s[i].toNat = byteAt (bytesOf s) i := by
  have := nat_get s h
  unfold natsOf at this
  rw [List.getElem?_map] at this
  have e : s.data.toList[i]? = some s[i] := by
    rw [Array.getElem?_toList]
    exact Array.getElem?_eq_getElem h
  rw [e] at this
  simpa using this
theorem cmpBytes_eq (x y : ByteArray) : ∀ (n m i : Nat), x.size = i + n → y.size = i + m → cmpBytes (bytesOf x) (bytesOf y) n m i = Op.bytesLess (x.data.toList.drop i) (y.data.toList.drop i) := by
  intro n
  induction n with
  | zero =>
    intro m i hn hm
    have ex : x.data.toList.drop i = [] := List.drop_eq_nil_of_le (by rw [size_length]; omega)
    cases m with
    | zero =>
      have ey : y.data.toList.drop i = [] := List.drop_eq_nil_of_le (by rw [size_length]; omega)
      rw [ex, ey]; simp [cmpBytes, Op.bytesLess]
    | succ m =>
      have hy : i < y.data.toList.length := by rw [size_length]; omega
      rw [ex, List.drop_eq_getElem_cons hy]; simp [cmpBytes, Op.bytesLess]
  | succ n ih =>
    intro m i hn hm
    have hx : i < x.data.toList.length := by rw [size_length]; omega
    cases m with
    | zero =>
      have ey : y.data.toList.drop i = [] := List.drop_eq_nil_of_le (by rw [size_length]; omega)
      rw [ey, List.drop_eq_getElem_cons hx]; simp [cmpBytes, Op.bytesLess]
    | succ m =>
      have hy : i < y.data.toList.length := by rw [size_length]; omega
      rw [List.drop_eq_getElem_cons hx, List.drop_eq_getElem_cons hy]
      simp only [cmpBytes, Op.bytesLess]
      rw [ih m (i + 1) (by omega) (by omega)]
      have e1 : byteAt (bytesOf x) i = (x.data.toList[i]).toNat := (byte_get x (by omega)).symm
      have e2 : byteAt (bytesOf y) i = (y.data.toList[i]).toNat := (byte_get y (by omega)).symm
      rw [e1, e2]
      congr 1
      · rw [Bool.eq_iff_iff, Nat.blt_eq, decide_eq_true_iff]; rfl
      · congr 1
        rw [Bool.eq_iff_iff, Nat.beq_eq, beq_iff_eq, UInt8.toNat_inj]
theorem strLt_eq (x y : ByteArray) : strLt x.size (bytesOf x) y.size (bytesOf y) = Op.bytesLess x.toList y.toList := by
  unfold strLt
  rw [cmpBytes_eq x y x.size y.size 0 (by omega) (by omega), toList_data, toList_data]; rfl
theorem bytesOf_append (x y : ByteArray) : bytesOf (x ++ y) = bytesOf x + bytesOf y <<< (8 * x.size) := by
  have : natsOf (x ++ y) = natsOf x ++ natsOf y := by
    unfold natsOf
    rw [ByteArray.data_append, Array.toList_append, List.map_append]
  rw [bytesOf_natsOf, this, packL_append, natsOf_length]; rfl
theorem natsOf_extract (s : ByteArray) (l h : Nat) : natsOf (s.extract l h) = ((natsOf s).drop l).take (h - l) := by
  unfold natsOf
  rw [ByteArray.data_extract, Array.toList_extract, List.extract_eq_take_drop, List.map_take, List.map_drop]
theorem bytesOf_extract (s : ByteArray) (l h : Nat) : bytesOf (s.extract l h) = sub (bytesOf s) l h := by
  rw [bytesOf_natsOf, natsOf_extract, packL_take _ _ fun x hx => natsOf_lt s x (List.mem_of_mem_drop hx), packL_drop _ _ (natsOf_lt s)]
  unfold sub
  rw [pow8]; rfl
theorem Rel.str' {σ : Sg} {s : ByteArray} {n b : Nat} (hn : n = s.size) (hb : b = bytesOf s) : Rel σ (.str n b) (.string s) := by subst hn hb; exact .str s
end Go.Ev

namespace Go.Ev
open Go
set_option linter.unusedVariables false
set_option linter.unusedSimpArgs false
theorem forIn_array {α β : Type} (xs : Array α) (init : β) (f : α → β → Sem (ForInStep β)) : forIn xs init f = forIn xs.toList init f := (Array.forIn_toList (m := Sem) ..).symm
theorem run_stoodIn (p : Program) (w : World) {α : Type} (f : Program → Sem α) : (program >>= f).run p w = (f p).run p w := run_ok (run_program p w)
def EqOk (p : Program) (σ : Sg) (w : World) (d : Nat) : Prop := ∀ (t : TypeId) (x y : V) (X Y : Value) (r : Bool), Rel σ x X → Rel σ y Y → eqV p d t x y = some r → (Op.equalIn d t X Y).run p w = .ok r w
theorem eqF_run (p : Program) (σ : Sg) (w : World) (d : Nat) (ih : EqOk p σ w d) : ∀ (fs : List Field) (xs ys : List V) (us vs : Array Value) (r : Bool), RelL σ xs us.toList → RelL σ ys vs.toList → eqFW p (eqV p d) fs xs ys = some r →
    (forIn fs ((none, ()) : Option Bool × Unit) fun f __s => (if f.name ≠ "_" then do
        let __do_lift ← part f.type us f.offset
        let __do_lift_1 ← part f.type vs f.offset
        let __do_lift ← Op.equalIn d f.type __do_lift __do_lift_1
        if (!__do_lift) = true then pure (ForInStep.done (some false, ())) else pure (ForInStep.yield (none, ()))
      else pure (ForInStep.yield (none, ())) : Sem (ForInStep (Option Bool × Unit)))).run p w = .ok (if r then (none, ()) else (some false, ())) w
  | [], xs, ys, us, vs, r, hx, hy, h => by
    simp [eqFW] at h; subst h; rfl
  | f :: fs, xs, ys, us, vs, r, hx, hy, h => by
    unfold eqFW at h
    rw [List.forIn_cons]
    by_cases hn : f.name = "_"
    · rw [if_pos hn] at h
      have : (if f.name ≠ "_" then do
        let __do_lift ← part f.type us f.offset
        let __do_lift_1 ← part f.type vs f.offset
        let __do_lift ← Op.equalIn d f.type __do_lift __do_lift_1
        if (!__do_lift) = true then pure (ForInStep.done (some false, ())) else pure (ForInStep.yield (none, ()))
      else pure (ForInStep.yield (none, ())) : Sem (ForInStep (Option Bool × Unit))) = pure (ForInStep.yield (none, ())) := if_neg (by simp [hn])
      rw [this, run_ok (run_pure _ _ _)]
      exact eqF_run p σ w d ih fs xs ys us vs r hx hy h
    · rw [if_neg hn] at h
      split at h
      · rename_i a b ha hb
        obtain ⟨A, hA, hRa⟩ := run_part hx ha w
        obtain ⟨B, hB, hRb⟩ := run_part hy hb w
        have key : ∀ q, eqV p d f.type a b = some q → (if f.name ≠ "_" then do
            let __do_lift ← part f.type us f.offset
            let __do_lift_1 ← part f.type vs f.offset
            let __do_lift ← Op.equalIn d f.type __do_lift __do_lift_1
            if (!__do_lift) = true then pure (ForInStep.done (some false, ())) else pure (ForInStep.yield (none, ()))
          else pure (ForInStep.yield (none, ())) : Sem (ForInStep (Option Bool × Unit))).run p w = .ok (if q then ForInStep.yield (none, ()) else ForInStep.done (some false, ())) w := fun q hq => by
          rw [if_pos hn, run_ok hA, run_ok hB, run_ok (ih f.type a b A B q hRa hRb hq)]
          cases q <;> rfl
        split at h
        · rename_i hq
          rw [run_ok (key _ hq)]
          exact eqF_run p σ w d ih fs xs ys us vs r hx hy h
        · rename_i hq
          cases h
          rw [run_ok (key _ hq)]; rfl
        · cases h
      · cases h
theorem eqA_run (p : Program) (σ : Sg) (w : World) (d : Nat) (ih : EqOk p σ w d) (el : TypeId) (sz : Nat) : ∀ (n i : Nat) (xs ys : List V) (us vs : Array Value) (r : Bool), RelL σ xs us.toList → RelL σ ys vs.toList → eqAW p (eqV p d) el sz n i xs ys = some r →
    (forIn (List.range' i n) ((none, ()) : Option Bool × Unit) fun i __s => (do
        let __do_lift ← part el us (i * sz)
        let __do_lift_1 ← part el vs (i * sz)
        let __do_lift ← Op.equalIn d el __do_lift __do_lift_1
        if (!__do_lift) = true then pure (ForInStep.done (some false, ())) else pure (ForInStep.yield (none, ())) : Sem (ForInStep (Option Bool × Unit)))).run p w = .ok (if r then (none, ()) else (some false, ())) w
  | 0, i, xs, ys, us, vs, r, hx, hy, h => by
    simp [eqAW] at h; subst h; rfl
  | n + 1, i, xs, ys, us, vs, r, hx, hy, h => by
    unfold eqAW at h
    rw [List.range'_succ, List.forIn_cons]
    split at h
    · rename_i a b ha hb
      obtain ⟨A, hA, hRa⟩ := run_part hx ha w
      obtain ⟨B, hB, hRb⟩ := run_part hy hb w
      have key : ∀ q, eqV p d el a b = some q → (do
          let __do_lift ← part el us (i * sz)
          let __do_lift_1 ← part el vs (i * sz)
          let __do_lift ← Op.equalIn d el __do_lift __do_lift_1
          if (!__do_lift) = true then pure (ForInStep.done (some false, ())) else pure (ForInStep.yield (none, ())) : Sem (ForInStep (Option Bool × Unit))).run p w = .ok (if q then ForInStep.yield (none, ()) else ForInStep.done (some false, ())) w := fun q hq => by
        rw [run_ok hA, run_ok hB, run_ok (ih el a b A B q hRa hRb hq)]
        cases q <;> rfl
      split at h
      · rename_i hq
        rw [run_ok (key _ hq)]
        exact eqA_run p σ w d ih el sz n (i + 1) xs ys us vs r hx hy h
      · rename_i hq
        cases h
        rw [run_ok (key _ hq)]; rfl
      · cases h
    · cases h
theorem eqV_run (p : Program) (σ : Sg) (w : World) : ∀ d, EqOk p σ w d := by
  intro d
  induction d with
  | zero => intro t x y X Y r hx hy h; simp [eqV] at h
  | succ d ih =>
    intro t x y X Y r hx hy h
    unfold eqV at h
    cases hd : p.underlying t with
    | none => rw [hd] at h; simp at h
    | some desc =>
      rw [hd] at h
      dsimp only at h
      unfold Op.equalIn
      rw [run_ok (run_underlying hd w)]
      split at h
      · cases hx; cases hy
        rename_i a b
        cases h
        cases a <;> cases b <;> rfl
      · cases hx; cases hy
        rename_i k a k' b
        simp only [bif_some, kindEq_iff, Option.some.injEq] at h
        obtain ⟨rfl, rfl⟩ := h
        dsimp only
        rw [if_pos rfl, intEq_eq]; rfl
      · cases hx; cases hy
        cases h
        dsimp only
        rw [strEq_beq]; rfl
      · rename_i e b i b' i'
        simp only [bif_some, Bool.and_eq_true, Nat.beq_eq] at h
        obtain ⟨⟨rfl, rfl⟩, h⟩ := h
        split at h
        case h_2 => cases h
        rename_i inf hi
        cases h
        cases hx with
        | ptr _ h1 => cases hy with
          | ptr _ h2 =>
            rw [h1] at h2; cases h2
            dsimp only
            rw [run_ok (run_sizeOf hi w)]
            split
            · unfold sameAddr; rw [if_pos (by simp)]; simp [run_pure]
            · rw [if_pos (by simp)]; rfl
      · cases hx; cases hy; cases h; rfl
      · cases hx; cases hy; cases h; rfl
      · cases hx; cases hy; cases h; rfl
      · cases hx; cases hy; cases h; rfl
      · cases hx; cases hy; cases h; rfl
      · cases hx; cases hy; cases h; rfl
      · cases hx; cases hy; cases h; rfl
      · cases hx; cases hy; cases h; rfl
      · rename_i ms tx vx ty vy
        cases hx with
        | iface _ h1 => cases hy with
          | iface _ h2 =>
            dsimp only
            by_cases e : tx = ty
            · subst e
              rw [show Nat.beq tx tx = true by simp] at h
              simp only [cond_true] at h
              split at h
              · rename_i info hi
                simp only [bif_some] at h
                rw [if_neg (by simp), run_ok (run_typeInfo hi w)]
                rw [h.1]
                simp only [Bool.not_true, Bool.false_eq_true, if_false]
                exact ih tx vx vy _ _ r h1 h2 h.2
              · cases h
            · rw [show Nat.beq tx ty = false by rw [← Bool.not_eq_true, Nat.beq_eq]; exact e] at h
              simp only [cond_false, Option.some.injEq] at h
              subst h
              rw [if_pos e]; rfl
      · rename_i fields xs ys
        cases hx with
        | agg _ us h1 h2 => cases hy with
          | agg _ vs h3 h4 =>
            cases hst : p.stoodInHeld t with
            | true => rw [hst] at h; simp at h
            | false =>
              rw [hst] at h
              simp only [cond_false] at h
              dsimp only
              rw [run_stoodIn, hst]
              simp only [Bool.false_eq_true, if_false]
              rw [forIn_array, run_ok (eqF_run p σ w d ih fields.toList xs ys us vs r (relL_arr.2 ⟨h1, h2⟩) (relL_arr.2 ⟨h3, h4⟩) h)]
              cases r <;> rfl
      · rename_i n el xs ys
        cases hx with
        | agg _ us h1 h2 => cases hy with
          | agg _ vs h3 h4 =>
            dsimp only
            split at h
            case h_2 => cases h
            rename_i i hi
            rw [run_ok (run_sizeOf hi w), Std.Legacy.Range.forIn_eq_forIn_range', show List.range' [:n].start [:n].size [:n].step = List.range' 0 n by simp [Std.Legacy.Range.size], run_ok (eqA_run p σ w d ih el (p.cellsOf el) n 0 xs ys us vs r (relL_arr.2 ⟨h1, h2⟩) (relL_arr.2 ⟨h3, h4⟩) h)]
            cases r <;> rfl
      · cases hx; cases hy; cases h; rfl
      · cases hx; cases hy; cases h; rfl
      · cases hx; cases hy; cases h; rfl
      · cases hx; cases hy; cases h; rfl
      · cases hx; cases hy; cases h; rfl
      · cases hx; cases hy; cases h; rfl
      · cases hx; cases hy; cases h; rfl
      · cases hx; cases hy; cases h; rfl
      · cases hx; cases hy; cases h; rfl
      · cases hx; cases hy; cases h; rfl
      · cases h
end Go.Ev

namespace Go.Ev
open Go
set_option linter.unusedVariables false
set_option linter.unusedSimpArgs false
theorem guard_run {p : Program} {σ : Sg} {op : BinOp} {t : TypeId} {x y : Operand} {a b : V} {A B : Value} (hA : Rel σ a A) (hB : Rel σ b B) (h : guardOk p t x y a b = true) (w : World) : (eqGuard op t x y A B).run p w = .ok () w := by
  unfold eqGuard
  split
  case h_3 => rfl
  all_goals
    rw [if_neg (by simp)]
    split
    · cases hA; cases hB
      have core : nilOk p t = true → ∀ (K : Sem Unit), (do if (← Op.eqGuardIn Op.maxDepth t .nilIface .nilIface) = true then K else pure () : Sem Unit).run p w = .ok () w := fun h K => by
        unfold nilOk at h
        cases hd : p.underlying t with
        | none => rw [hd] at h; simp at h
        | some d =>
          rw [hd] at h
          have : (Op.eqGuardIn Op.maxDepth t .nilIface .nilIface).run p w = .ok false w := by
            show (Op.eqGuardIn (9999 + 1) t .nilIface .nilIface).run p w = _
            unfold Op.eqGuardIn
            rw [run_ok (run_underlying hd w)]
            cases d <;> first
              | rfl
              | (dsimp only at h ⊢; rw [h]; rfl)
          rw [run_ok this]; rfl
      cases x <;> cases y <;> first
        | rfl
        | exact core (by simpa [guardOk] using h) _
    · cases hA; cases hB
      simp only [guardOk, Bool.not_eq_true'] at h
      rw [run_stoodIn, run_stoodIn, h]
      rfl
    · rfl
theorem intOp_run {p : Program} {op : BinOp} {k : IntKind} {a b : Int} {v : V} (σ : Sg) (h : intOp p op k a b = some v) (hs : op ≠ .shl ∧ op ≠ .shr) (w : World) (t : TypeId) : ∃ x, (binOp op t (.int k a) (.int k b)).run p w = .ok x w ∧ Rel σ v x := by
  obtain ⟨hs1, hs2⟩ := hs
  have e : ∀ (s : Sem Value), (if k ≠ k then stuck "BinOp: operands of different kinds" else s : Sem Value) = s := fun s => if_neg (by simp)
  cases op <;> simp only [intOp, Option.some.injEq, bif_some] at h
  case add => subst h; exact ⟨_, by simp only [binOp]; rw [e]; rfl, by rw [wrapI_eq, intAdd_eq]; exact .int _ _⟩
  case sub => subst h; exact ⟨_, by simp only [binOp]; rw [e]; rfl, by rw [wrapI_eq, intSub_eq]; exact .int _ _⟩
  case mul => subst h; exact ⟨_, by simp only [binOp]; rw [e]; rfl, by rw [wrapI_eq]; exact .int _ _⟩
  case quo =>
    cases hb : intEq b 0 with
    | true => rw [hb] at h; simp at h
    | false =>
      rw [hb] at h
      simp only [cond_false, Option.some.injEq] at h
      subst h
      have hne : b ≠ 0 := fun e => by rw [(intEq_iff b 0).2 e] at hb; cases hb
      exact ⟨_, by simp only [binOp]; rw [e]; simp only [Op.intDiv]; rw [if_neg hne]; rfl, by rw [wrapI_eq]; exact .int _ _⟩
  case rem =>
    cases hb : intEq b 0 with
    | true => rw [hb] at h; simp at h
    | false =>
      rw [hb] at h
      simp only [cond_false, Option.some.injEq] at h
      subst h
      have hne : b ≠ 0 := fun e => by rw [(intEq_iff b 0).2 e] at hb; cases hb
      exact ⟨_, by simp only [binOp]; rw [e]; simp only [Op.intDiv]; rw [if_neg hne]; rfl, .int _ _⟩
  case eql => subst h; exact ⟨_, by simp only [binOp]; rw [e]; rfl, by rw [intEq_eq]; exact .bool _⟩
  case neq => subst h; exact ⟨_, by simp only [binOp]; rw [e]; rfl, by rw [intEq_eq]; exact .bool _⟩
  case lss => subst h; exact ⟨_, by simp only [binOp]; rw [e]; rfl, by rw [intLt_eq]; exact .bool _⟩
  case leq => subst h; exact ⟨_, by simp only [binOp]; rw [e]; rfl, by rw [intLt_eq, show (!decide (b < a)) = decide (a ≤ b) by rw [Bool.eq_iff_iff]; simp]; exact .bool _⟩
  case gtr => subst h; exact ⟨_, by simp only [binOp]; rw [e]; rfl, by rw [intLt_eq]; exact .bool _⟩
  case geq => subst h; exact ⟨_, by simp only [binOp]; rw [e]; rfl, by rw [intLt_eq, show (!decide (a < b)) = decide (a ≥ b) by rw [Bool.eq_iff_iff]; simp]; exact .bool _⟩
  case shl => exact absurd rfl hs1
  case shr => exact absurd rfl hs2
  all_goals
    (split at h
     · rename_i k' n hp
       cases h
       exact ⟨_, by simp only [binOp]; rw [e]; exact run_pureRun hp w, .int _ _⟩
     · cases h)
theorem strOp_run {p : Program} {op : BinOp} {x y : ByteArray} {v : V} (σ : Sg) (h : strOp op x.size (bytesOf x) y.size (bytesOf y) = some v) (w : World) (t : TypeId) : ∃ z, (binOp op t (.string x) (.string y)).run p w = .ok z w ∧ Rel σ v z := by
  cases op <;> simp only [strOp, Option.some.injEq, bif_some, Nat.ble_eq] at h
  case add =>
    obtain ⟨hle, rfl⟩ := h
    refine ⟨.string (x ++ y), ?_, Rel.str' ByteArray.size_append.symm (bytesOf_append x y).symm⟩
    simp only [binOp, Op.stringOp]
    rw [if_neg]
    · rfl
    · have : IntKind.i64.max = 9223372036854775807 := by decide
      rw [this]; omega
  case eql => subst h; exact ⟨_, rfl, by rw [strEq_eq]; exact .bool _⟩
  case neq => subst h; exact ⟨_, rfl, by rw [strEq_eq]; exact .bool _⟩
  case lss => subst h; exact ⟨_, rfl, by rw [strLt_eq]; exact .bool _⟩
  case leq => subst h; exact ⟨_, rfl, by rw [strLt_eq, strEq_eq]; exact .bool _⟩
  case gtr => subst h; exact ⟨_, rfl, by rw [strLt_eq, strEq_eq]; exact .bool _⟩
  case geq => subst h; exact ⟨_, rfl, by rw [strLt_eq]; exact .bool _⟩
  all_goals cases h
theorem wrap_u64 (n : Int) : IntKind.u64.wrap n % 18446744073709551616 = n % 18446744073709551616 ∧ 0 ≤ IntKind.u64.wrap n ∧ IntKind.u64.wrap n < 18446744073709551616 := by
  have : IntKind.u64.wrap n = n % 18446744073709551616 := by
    unfold IntKind.wrap
    simp [IntKind.signed, IntKind.bits]
  rw [this]
  omega
theorem wrap_i64 (n : Int) : IntKind.i64.wrap n % 18446744073709551616 = n % 18446744073709551616 := by
  unfold IntKind.wrap
  simp only [IntKind.signed, IntKind.bits, Bool.true_and, decide_eq_true_eq, show (64 - 1) = 63 from rfl]
  by_cases hh : n % 2 ^ 64 ≥ 2 ^ 63
  · rw [if_pos hh]; omega
  · rw [if_neg hh]; omega
theorem and_rest {n : Int} {b c r : Nat} {k : IntKind} (hk : k.bits = 64) (hn : (n % 18446744073709551616).toNat % c = r) (h1 : b + 1 = c) (h2 : 2 ^ Nat.log2 c = c) (h3 : c ≤ 4294967296) : (BitVec.ofInt k.bits n &&& BitVec.ofInt k.bits (.ofNat b)).toNat = r := by
  have hb : k.bits = 64 := hk
  rw [BitVec.toNat_and, BitVec.toNat_ofInt, BitVec.toNat_ofInt, hb]
  have e1 : (n % ((2 ^ 64 : Nat) : Int)).toNat = (n % 18446744073709551616).toNat := rfl
  have hbb : b < 18446744073709551616 := by omega
  have e2 : ((Int.ofNat b) % ((2 ^ 64 : Nat) : Int)).toNat = b := by
    show ((b : Int) % 18446744073709551616).toNat = b
    omega
  rw [e1, e2, show b = 2 ^ Nat.log2 c - 1 by omega, Nat.and_two_pow_sub_one_eq_mod, h2]
  exact hn
theorem resOp_run {p : Program} {op : BinOp} {k k' : IntKind} {c r : Nat} {n b : Int} {v : V} (σ : Sg) (hn : (n % 18446744073709551616).toNat % c = r) (hk : k = .u64 → 0 ≤ n ∧ n < 18446744073709551616) (h : resOp op k c r k' b = some v) (w : World) (t : TypeId) : ∃ x, (binOp op t (.int k n) (.int k' b)).run p w = .ok x w ∧ Rel σ v x := by
  unfold resOp at h
  split at h
  · rename_i b
    simp only [bif_some, Nat.beq_eq, Option.some.injEq] at h
    obtain ⟨rfl, rfl⟩ := h
    obtain ⟨h0, h1⟩ := hk rfl
    refine intOp_run (op := .rem) (k := .u64) (a := n) (b := .ofNat (b + 1)) σ (show intOp p .rem .u64 n (.ofNat (b + 1)) = some (.int .u64 (.ofNat r)) from ?_) ⟨by simp, by simp⟩ w t
    have hz : intEq (.ofNat (b + 1)) 0 = false := by rw [← Bool.not_eq_true, intEq_iff]; simp; omega
    simp only [intOp, hz, cond_false]
    congr 2
    obtain ⟨a, rfl⟩ := Int.eq_ofNat_of_zero_le h0
    subst hn
    have : (a : Int) % 18446744073709551616 = a := by omega
    rw [this]
    rfl
  · rename_i b
    simp only [bif_some, Bool.and_eq_true, Nat.beq_eq, Nat.ble_eq, Option.some.injEq] at h
    obtain ⟨⟨⟨h1, h2⟩, h3⟩, rfl⟩ := h
    refine intOp_run (op := .and) (k := IntKind.u64) (a := n) (b := .ofNat b) σ (show intOp p .and IntKind.u64 n (.ofNat b) = some (.int IntKind.u64 (.ofNat r)) from ?_) ⟨by simp, by simp⟩ w t
    have hr : r < c := by subst hn; exact Nat.mod_lt _ (by omega)
    have e : pureRun p (Op.intBits .and IntKind.u64 n (.ofNat b)) = some (.int IntKind.u64 (IntKind.u64.wrap (BitVec.ofInt IntKind.u64.bits n &&& BitVec.ofInt IntKind.u64.bits (.ofNat b)).toNat)) := rfl
    simp only [intOp, e]
    rw [and_rest (k := IntKind.u64) rfl hn h1 h2 h3]
    congr 2
    unfold IntKind.wrap
    simp only [IntKind.signed, IntKind.bits, Bool.false_and, Bool.false_eq_true, if_false]
    simp only [Int.ofNat_eq_natCast]; omega
  · rename_i b
    simp only [bif_some, Bool.and_eq_true, Nat.beq_eq, Nat.ble_eq, Option.some.injEq] at h
    obtain ⟨⟨⟨h1, h2⟩, h3⟩, rfl⟩ := h
    refine intOp_run (op := .and) (k := IntKind.i64) (a := n) (b := .ofNat b) σ (show intOp p .and IntKind.i64 n (.ofNat b) = some (.int IntKind.i64 (.ofNat r)) from ?_) ⟨by simp, by simp⟩ w t
    have hr : r < c := by subst hn; exact Nat.mod_lt _ (by omega)
    have e : pureRun p (Op.intBits .and IntKind.i64 n (.ofNat b)) = some (.int IntKind.i64 (IntKind.i64.wrap (BitVec.ofInt IntKind.i64.bits n &&& BitVec.ofInt IntKind.i64.bits (.ofNat b)).toNat)) := rfl
    simp only [intOp, e]
    rw [and_rest (k := IntKind.i64) rfl hn h1 h2 h3]
    congr 2
    unfold IntKind.wrap
    simp only [IntKind.signed, IntKind.bits, Bool.true_and, decide_eq_true_eq, show (64 - 1) = 63 from rfl]
    rw [if_neg (by omega)]
    simp only [Int.ofNat_eq_natCast]; omega
  · cases h
theorem binV_run {p : Program} {σ : Sg} {op : BinOp} {t : TypeId} {ox oy : Operand} {a b v : V} {A B : Value} (hA : Rel σ a A) (hB : Rel σ b B) (h : binV p op t ox oy a b = some v) (w : World) :
    ∃ x, (do eqGuard op t ox oy A B; binOp op t A B : Sem Value).run p w = .ok x w ∧ Rel σ v x := by
  unfold binV at h
  split at h
  · rename_i k a k' b
    cases hA; cases hB
    have hg : (eqGuard op t ox oy (.int k a) (.int k' b)).run p w = .ok () w := by unfold eqGuard; split <;> rfl
    rw [run_ok hg]
    split at h
    · split at h
      · rename_i k2 n hp
        cases h
        exact ⟨_, by simp only [binOp]; exact run_pureRun hp w, .int _ _⟩
      · cases h
    · split at h
      · rename_i k2 n hp
        cases h
        exact ⟨_, by simp only [binOp]; exact run_pureRun hp w, .int _ _⟩
      · cases h
    · rename_i h1 h2
      simp only [bif_some, kindEq_iff] at h
      obtain ⟨rfl, h⟩ := h
      exact intOp_run σ h ⟨h1, h2⟩ w t
  · cases hA; cases hB
    rename_i x y
    have hg : (eqGuard op t ox oy (.string x) (.string y)).run p w = .ok () w := by unfold eqGuard; split <;> rfl
    rw [run_ok hg]
    exact strOp_run σ h w t
  · cases hA with
    | res _ _ _ n hn hk =>
    cases hB
    have hg : ∀ k n k' b, (eqGuard op t ox oy (.int k n) (.int k' b)).run p w = .ok () w := fun k n k' b => by unfold eqGuard; split <;> rfl
    rw [run_ok (hg _ _ _ _)]
    exact resOp_run σ hn hk h w t
  · cases h
  · cases h
  · rename_i a1 a2 a3 a4 a5
    split at h
    · simp only [bif_some, Option.map_eq_some_iff] at h
      obtain ⟨hg, r, hr, rfl⟩ := h
      rw [run_ok (guard_run hA hB hg w)]
      refine ⟨.bool r, ?_, .bool r⟩
      have he := eqV_run p σ w 10000 t a b A B r hA hB hr
      have : (binOp .eql t A B).run p w = (do pure (.bool (← Op.equal t A B)) : Sem Value).run p w := by
        cases hA <;> cases hB <;> first
          | rfl
          | exact absurd rfl (a1 _ _ _)
          | exact absurd rfl (a2 _ _ _)
          | exact absurd rfl (a3 _ _ _)
          | exact absurd rfl (a4 _ _ _)
          | exact absurd rfl (a5 _ _ _)
          | exact absurd rfl (a1 _ _ _ _ rfl)
          | exact absurd rfl (a2 _ _ _ _ rfl)
          | exact absurd rfl (a3 _ _ _ _ rfl)
          | exact absurd rfl (a4 _ _ _ _ rfl)
          | exact absurd rfl (a5 _ _ _ _ rfl)
      rw [this]
      exact run_ok he
    · simp only [bif_some, Option.map_eq_some_iff] at h
      obtain ⟨hg, r, hr, rfl⟩ := h
      rw [run_ok (guard_run hA hB hg w)]
      refine ⟨.bool (!r), ?_, .bool _⟩
      have he := eqV_run p σ w 10000 t a b A B r hA hB hr
      have : (binOp .neq t A B).run p w = (do pure (.bool (!(← Op.equal t A B))) : Sem Value).run p w := by
        cases hA <;> cases hB <;> first
          | rfl
          | exact absurd rfl (a1 _ _ _)
          | exact absurd rfl (a2 _ _ _)
          | exact absurd rfl (a3 _ _ _)
          | exact absurd rfl (a4 _ _ _)
          | exact absurd rfl (a5 _ _ _)
          | exact absurd rfl (a1 _ _ _ _ rfl)
          | exact absurd rfl (a2 _ _ _ _ rfl)
          | exact absurd rfl (a3 _ _ _ _ rfl)
          | exact absurd rfl (a4 _ _ _ _ rfl)
          | exact absurd rfl (a5 _ _ _ _ rfl)
      rw [this]
      exact run_ok he
    · cases h
theorem unV_run {p : Program} {σ : Sg} {op : UnOp} {a v : V} {A : Value} (hA : Rel σ a A) (h : unV p op a = some v) (w : World) : ∃ x, (Op.unary op A).run p w = .ok x w ∧ Rel σ v x := by
  unfold unV at h
  split at h
  · cases hA; cases h; exact ⟨_, rfl, .bool _⟩
  · cases hA
    split at h
    · rename_i k n hp
      cases h
      exact ⟨_, run_pureRun hp w, .int _ _⟩
    · cases h
  · cases h
end Go.Ev

namespace Go.Ev
open Go
set_option linter.unusedVariables false
set_option linter.unusedSimpArgs false
theorem sizeQ_run {p : Program} {t : TypeId} {s : Nat} (h : sizeQ p t = some s) (w : World) : (sizeOf t).run p w = .ok s w := by
  unfold sizeQ at h
  split at h
  · rename_i i hi
    cases h
    rw [run_sizeOf hi]
    simp [Program.cellsOf, hi]
  · cases h
theorem asNat_rel {σ : Sg} {v : V} {x : Value} {n : Nat} (h : asNat v = some n) (r : Rel σ v x) : ∃ k, x = .int k (.ofNat n) := by
  unfold asNat at h
  split at h
  · cases h; cases r; exact ⟨_, rfl⟩
  · cases h
def OptR (σ : Sg) : Option V → Option Value → Prop
  | none, none => True
  | some v, some x => Rel σ v x
  | _, _ => False
theorem opt_rel {σ : Sg} {e : Env} {ρ : Operand → Value} {o : Option Operand} {v : Option V} (hO : ∀ x, o = some x → ∀ v, evalO e x = some v → Rel σ v (ρ x)) (h : opt e o = some v) : OptR σ v (o.map ρ) := by
  cases o with
  | none => simp [opt] at h; subst h; trivial
  | some x =>
    simp only [opt] at h
    split at h
    · rename_i u hu
      cases h
      exact hO x rfl u hu
    · cases h
theorem sliceBound_run {p : Program} {k : IntKind} {n y : Nat} {c : BoundsCode} (h : n ≤ y) (w : World) : (Instr.sliceBound (.int k (.ofNat n)) y c).run p w = .ok n w := by
  unfold Instr.sliceBound
  show ((pure (k, Int.ofNat n) : Sem _) >>= _).run p w = _
  rw [run_ok (run_pure _ _ _)]
  dsimp only
  rw [if_pos (by simp only [Int.ofNat_eq_natCast]; omega)]
  rfl
theorem sliceBounds_run {p : Program} {σ : Sg} {is : Bool} {len cap l h : Nat} {lo hi : Option V} {lo' hi' : Option Value} (hl : optNat 0 lo = some l) (hh : optNat len hi = some h) (rl : OptR σ lo lo') (rh : OptR σ hi hi') (h1 : l ≤ h) (h2 : h ≤ cap) (w : World) :
    (Instr.sliceBounds is len cap lo' hi' none).run p w = .ok (l, h, cap) w := by
  have hlo : (lo' = none ∧ l = 0) ∨ ∃ k, lo' = some (.int k (.ofNat l)) := by
    cases lo with
    | none =>
      cases lo' with
      | none => simp [optNat] at hl; exact .inl ⟨rfl, hl.symm⟩
      | some x => exact absurd rl (by simp [OptR])
    | some v =>
      cases lo' with
      | none => exact absurd rl (by simp [OptR])
      | some x =>
        obtain ⟨k, rfl⟩ := asNat_rel (by simpa [optNat] using hl) rl
        exact .inr ⟨k, rfl⟩
  have hhi : (hi' = none ∧ h = len) ∨ ∃ k, hi' = some (.int k (.ofNat h)) := by
    cases hi with
    | none =>
      cases hi' with
      | none => simp [optNat] at hh; exact .inl ⟨rfl, hh.symm⟩
      | some x => exact absurd rh (by simp [OptR])
    | some v =>
      cases hi' with
      | none => exact absurd rh (by simp [OptR])
      | some x =>
        obtain ⟨k, rfl⟩ := asNat_rel (by simpa [optNat] using hh) rh
        exact .inr ⟨k, rfl⟩
  have E1 : ∀ k c, (Instr.sliceBound (.int k (.ofNat h)) cap c).run p w = .ok h w := fun k c => sliceBound_run h2 w
  have E2 : ∀ k c, (Instr.sliceBound (.int k (.ofNat l)) h c).run p w = .ok l w := fun k c => sliceBound_run h1 w
  rcases hlo with ⟨rfl, rfl⟩ | ⟨k, rfl⟩ <;> rcases hhi with ⟨rfl, rfl⟩ | ⟨k', rfl⟩ <;> unfold Instr.sliceBounds <;> dsimp only <;> rw [run_ok (run_pure _ _ _)]
  · rw [run_ok (run_pure _ _ _)]; rfl
  · rw [run_ok (E1 _ _)]; rfl
  · rw [run_ok (run_pure _ _ _), run_ok (E2 _ _)]; rfl
  · rw [run_ok (E1 _ _), run_ok (E2 _ _)]; rfl
theorem addr_add (a : Addr) (n : Nat) (cb o : Nat) (h : a = ⟨cb, o, none⟩) : a.add n = ⟨cb, o + n, none⟩ := by subst h; exact add_mk cb o n
theorem sliceV_run {p : Program} {σ : Sg} {t : TypeId} {x v : V} {X : Value} {lo hi : Option V} {lo' hi' : Option Value} (hx : Rel σ x X) (rl : OptR σ lo lo') (rh : OptR σ hi hi') (h : sliceV p t x lo hi = some v) (w : World) :
    ∃ z, (Instr.sliceAt t X lo' hi' none).run p w = .ok z w ∧ Rel σ v z := by
  unfold sliceV at h
  split at h
  · rename_i len bits hd
    cases hx with
    | str s =>
    split at h
    · rename_i l hh hl1 hh1
      simp only [bif_some, Bool.and_eq_true, Nat.ble_eq, Option.some.injEq] at h
      obtain ⟨⟨h1, h2⟩, rfl⟩ := h
      refine ⟨.string (s.extract l hh), ?_, Rel.str' (by rw [ByteArray.size_extract, Nat.min_eq_left h2]) (bytesOf_extract s l hh).symm⟩
      unfold Instr.sliceAt
      rw [run_ok (run_underlying hd w)]
      dsimp only
      unfold Instr.slice
      rw [run_ok (run_underlying hd w)]
      dsimp only
      rw [if_neg (by simp), run_ok (sliceBounds_run hl1 hh1 rl rh h1 h2 w)]
      rfl
    · cases h
  · rename_i e b off len cap sz hd
    cases hx with
    | sl _ _ _ _ a cap' hs hl hc ha ht =>
    split at h
    · rename_i l hh s hl1 hh1 hsz
      simp only [bif_some, Bool.and_eq_true, Nat.ble_eq, Nat.beq_eq, Option.some.injEq] at h
      obtain ⟨⟨⟨h1, h2⟩, rfl⟩, rfl⟩ := h
      refine ⟨.slice (if cap' = l then some a else (some a).map (·.add (l * s))) (hh - l) (cap' - l), ?_, ?_⟩
      · unfold Instr.sliceAt
        rw [run_ok (run_underlying hd w)]
        dsimp only
        unfold Instr.slice
        rw [run_ok (run_underlying hd w)]
        dsimp only
        rw [run_ok (sliceBounds_run hl1 hh1 rl rh h1 (Nat.le_trans h2 hc) w)]
        dsimp only
        rw [run_ok (sizeQ_run hsz w)]
        rfl
      · by_cases e : cap' = l
        · rw [if_pos e]
          have := Nat.mul_le_mul_right s (show l ≤ cap' by omega)
          exact .sl _ _ _ _ _ _ hs (by omega) (by omega) (fun hp => by omega) (by subst e; rw [Nat.sub_self]; omega)
        · rw [if_neg e]
          refine .sl _ _ _ _ _ _ hs (by omega) (by omega) (fun hp => ?_) ?_
          · show a.add (l * s) = _
            rw [addr_add a _ _ _ (ha (by omega)), Nat.add_assoc]
          · rw [Nat.sub_mul]
            have := Nat.mul_le_mul_right s (show l ≤ cap' by omega)
            omega
    · cases h
  · rename_i e hd
    cases hx
    split at h
    · rename_i l hh s hl1 hh1 hsz
      simp only [bif_some, Bool.and_eq_true, Nat.beq_eq, Option.some.injEq] at h
      obtain ⟨⟨rfl, rfl⟩, rfl⟩ := h
      refine ⟨.slice none 0 0, ?_, .nils⟩
      unfold Instr.sliceAt
      rw [run_ok (run_underlying hd w)]
      dsimp only
      unfold Instr.slice
      rw [run_ok (run_underlying hd w)]
      dsimp only
      rw [run_ok (sliceBounds_run hl1 hh1 rl rh (Nat.le_refl 0) (Nat.le_refl 0) w)]
      dsimp only
      rw [run_ok (sizeQ_run hsz w)]
      rfl
    · cases h
  · cases h
theorem indexAddrV_run {p : Program} {σ : Sg} {t : TypeId} {x i v : V} {X I : Value} (hx : Rel σ x X) (hi : Rel σ i I) (h : indexAddrV p t x i = some v) (w : World) :
    ∃ z, (Instr.indexAt t X I).run p w = .ok z w ∧ Rel σ v z := by
  unfold indexAddrV at h
  split at h
  · rename_i el b off len cap sz n hd hn
    obtain ⟨k, rfl⟩ := asNat_rel hn hi
    cases hx with
    | sl _ _ _ _ a cap' hs hl hc ha ht =>
    split at h
    · rename_i s hsz
      simp only [bif_some, Bool.and_eq_true, Nat.blt_eq, Nat.beq_eq, Option.some.injEq] at h
      obtain ⟨⟨h1, rfl⟩, rfl⟩ := h
      refine ⟨.pointer (some (a.add (n * s))), ?_, ?_⟩
      · unfold Instr.indexAt
        rw [run_ok (show (asIntOf (.int k (.ofNat n))).run p w = .ok (k, .ofNat n) w from rfl)]
        dsimp only
        rw [run_ok (run_underlying hd w)]
        dsimp only
        rw [run_ok (run_pure _ _ _), run_ok (run_underlying hd w)]
        dsimp only
        rw [if_pos (by simp only [Int.ofNat_eq_natCast]; omega), run_ok (sizeQ_run hsz w)]
        rfl
      · rw [addr_add a _ _ _ (ha (by omega)), Nat.add_assoc]
        exact .ptr _ hs
    · cases h
  · rename_i len el b off n hd hn
    obtain ⟨k, rfl⟩ := asNat_rel hn hi
    cases hx with
    | @ptr _ cb o tt _ hs =>
    split at h
    · rename_i s hsz
      simp only [bif_some, Nat.blt_eq, Option.some.injEq] at h
      obtain ⟨h1, rfl⟩ := h
      refine ⟨.pointer (some ((⟨cb, o + off, none⟩ : Addr).add (n * s))), ?_, ?_⟩
      · unfold Instr.indexAt
        rw [run_ok (show (asIntOf (.int k (.ofNat n))).run p w = .ok (k, .ofNat n) w from rfl)]
        dsimp only
        rw [run_ok (run_underlying hd w)]
        dsimp only
        rw [run_ok (show (Instr.sureAddr (.pointer (some ⟨cb, o + off, none⟩))).run p w = .ok ⟨cb, o + off, none⟩ w from rfl), run_ok (run_pure _ _ _), run_ok (run_underlying hd w)]
        dsimp only
        rw [if_pos (by simp only [Int.ofNat_eq_natCast]; omega), run_ok (sizeQ_run hsz w)]
        rfl
      · rw [add_mk, Nat.add_assoc]
        exact .ptr _ hs
    · cases h
  · cases h
theorem indexV_run {p : Program} {σ : Sg} {t : TypeId} {x i v : V} {X I : Value} (hx : Rel σ x X) (hi : Rel σ i I) (h : indexV p t x i = some v) (w : World) :
    ∃ z, (Instr.index t X I).run p w = .ok z w ∧ Rel σ v z := by
  unfold indexV at h
  split at h
  · rename_i len bits n hd hn
    obtain ⟨k, rfl⟩ := asNat_rel hn hi
    cases hx with
    | str s =>
    simp only [bif_some, Nat.blt_eq, Option.some.injEq] at h
    obtain ⟨h1, rfl⟩ := h
    refine ⟨.int .u8 (s[n].toNat), ?_, by rw [byte_get s h1]; exact .int _ _⟩
    unfold Instr.index
    rw [run_ok (show (asIntOf (.int k (.ofNat n))).run p w = .ok (k, .ofNat n) w from rfl)]
    dsimp only
    rw [run_ok (run_underlying hd w)]
    dsimp only
    rw [if_pos (by simp)]
    rw [show s[(Int.ofNat n).toNat]? = some s[n] from getElem?_pos s n h1]
    rfl
  · rename_i len el cs n hd hn
    obtain ⟨k, rfl⟩ := asNat_rel hn hi
    cases hx with
    | agg _ us h1 h2 =>
    split at h
    · rename_i s hsz
      simp only [bif_some, Nat.blt_eq] at h
      obtain ⟨h3, h4⟩ := h
      obtain ⟨z, hz, hR⟩ := run_part (relL_arr.2 ⟨h1, h2⟩) h4 w
      refine ⟨z, ?_, hR⟩
      unfold Instr.index
      rw [run_ok (show (asIntOf (.int k (.ofNat n))).run p w = .ok (k, .ofNat n) w from rfl)]
      dsimp only
      rw [run_ok (run_underlying hd w)]
      dsimp only
      rw [if_pos (by simp only [Int.ofNat_eq_natCast]; omega), run_ok (sizeQ_run hsz w)]
      exact hz
    · cases h
  · cases h
theorem convN_run {p : Program} {σ : Sg} {s d : TypeId} {x v : V} {X : Value} (hx : Rel σ x X) (h : convN p s d x = some v) (w : World) : ∃ z, (convert s d X).run p w = .ok z w ∧ Rel σ v z := by
  unfold convN at h
  split at h
  · rename_i ds k k' n h1 h2
    cases hx
    cases h
    refine ⟨.int k (k.wrap n), ?_, by rw [wrapI_eq]; exact .int _ _⟩
    unfold convert
    rw [run_ok (run_underlying h1 w), run_ok (run_underlying h2 w)]
    rfl
  · rename_i ds l b h1 h2
    cases hx with
    | str t =>
    cases h
    refine ⟨.string t, ?_, .str t⟩
    unfold convert
    rw [run_ok (run_underlying h1 w), run_ok (run_underlying h2 w)]
    rfl
  · rename_i ds k c r h1 h2
    cases hx with
    | res _ _ _ n hn hk =>
    cases h
    obtain ⟨e1, e2⟩ := wrap_u64 n
    refine ⟨.int .u64 (IntKind.u64.wrap n), ?_, .res _ _ _ _ (by rw [e1]; exact hn) (fun _ => e2)⟩
    unfold convert
    rw [run_ok (run_underlying h1 w), run_ok (run_underlying h2 w)]
    rfl
  · rename_i ds k c r h1 h2
    cases hx with
    | res _ _ _ n hn hk =>
    cases h
    refine ⟨.int .i64 (IntKind.i64.wrap n), ?_, .res _ _ _ _ (by rw [wrap_i64]; exact hn) (fun h => by cases h)⟩
    unfold convert
    rw [run_ok (run_underlying h1 w), run_ok (run_underlying h2 w)]
    rfl
  · cases h
theorem least_none {l : List String} : Instr.least l = none ↔ l = [] := by
  cases l <;> simp [Instr.least]
theorem part_none (l : List String) (f : String → Bool) (h : String → String) : (let (un, ex) := l.partition f; Instr.least ex <|> Instr.least (un.map h)) = none ↔ l = [] := by
  rw [List.partition_eq_filter_filter]
  dsimp only
  constructor
  · intro e
    cases h1 : Instr.least (l.filter (not ∘ f)) with
    | some x => rw [h1] at e; cases e
    | none =>
      rw [h1] at e
      have e2 : Instr.least ((l.filter f).map h) = none := e
      rw [least_none] at h1 e2
      rw [List.map_eq_nil_iff] at e2
      rw [List.filter_eq_nil_iff] at h1 e2
      cases l with
      | nil => rfl
      | cons x r =>
        have a := h1 x (by simp)
        have b := e2 x (by simp)
        simp at a b
        rw [a] at b; cases b
  · rintro rfl; rfl
theorem missB_none {want : Array (String × TypeId)} {got : Array Method} : Instr.missingMethod want got = none ↔ missB want got = false := by
  unfold Instr.missingMethod
  refine (part_none _ _ _).trans ?_
  rw [List.map_eq_nil_iff, List.filter_eq_nil_iff]
  unfold missB
  rw [List.any_eq_false]
  simp only [Array.any_toList]
theorem missB_some {want : Array (String × TypeId)} {got : Array Method} (h : missB want got = true) : ∃ m, Instr.missingMethod want got = some m := by
  cases hm : Instr.missingMethod want got with
  | none => rw [missB_none.1 hm] at h; cases h
  | some m => exact ⟨m, rfl⟩
theorem assertV_run {p : Program} {σ : Sg} {x v : V} {X : Value} {xT t : TypeId} {ok : Bool} (hx : Rel σ x X) (h : assertV p x t ok = some v) (w : World) : ∃ z, (Instr.typeAssert X xT t ok).run p w = .ok z w ∧ Rel σ v z := by
  unfold assertV at h
  dsimp only at h
  have fails : ∀ (a b : Option TypeId) (m : String), (bif ok then (zeroV p t).map fun z => V.tup [z, .bool false] else none) = some v → ∃ z, (do if ok then pure (.tuple #[← zeroValue t, .bool false]) else runtimePanic (.typeAssertion a b t m) : Sem Value).run p w = .ok z w ∧ Rel σ v z := by
    intro a b m hf
    simp only [bif_some, Option.map_eq_some_iff] at hf
    obtain ⟨rfl, z, hz, rfl⟩ := hf
    obtain ⟨y, hy, hR, _⟩ := run_zero σ hz w
    refine ⟨.tuple #[y, .bool false], ?_, Rel.tupL.2 (.cons hR (.cons (.bool false) (.nil σ)))⟩
    rw [if_pos rfl]
    exact run_ok hy
  have holds : ∀ {u : V} {U : Value}, Rel σ u U → (some (bif ok then V.tup [u, .bool true] else u) : Option V) = some v → ∃ z, (pure (if ok then .tuple #[U, .bool true] else U) : Sem Value).run p w = .ok z w ∧ Rel σ v z := by
    intro u U hu hf
    cases hf
    cases ok
    · exact ⟨U, rfl, hu⟩
    · exact ⟨_, rfl, Rel.tupL.2 (.cons hu (.cons (.bool true) (.nil σ)))⟩
  unfold Instr.typeAssert
  dsimp only
  split at h
  · rename_i ms hd
    cases hx
    rw [run_ok (run_underlying hd w)]
    exact fails _ _ _ h
  · rename_i want t' u hd
    cases hx with
    | iface _ hu =>
    rename_i U
    rw [run_ok (run_underlying hd w)]
    dsimp only
    split at h
    · rename_i i hi
      rw [run_ok (run_typeInfo hi w)]
      split at h
      · rename_i hm
        rw [missB_none.2 hm]
        exact holds (.iface t' hu) h
      · rename_i hm
        obtain ⟨m, hm⟩ := missB_some hm
        rw [hm]
        exact fails _ _ _ h
    · cases h
  · rename_i d hn hd
    cases hx
    rw [run_ok (run_underlying hd w)]
    cases d <;> first
      | exact fails _ _ _ h
      | exact (hn _ rfl).elim
  · rename_i d t' u hn hd
    cases hx with
    | iface _ hu =>
    rename_i U
    rw [run_ok (run_underlying hd w)]
    have key : ∃ z, (if t' = t then pure (if ok then .tuple #[U, .bool true] else U) else (do if ok then pure (.tuple #[← zeroValue t, .bool false]) else runtimePanic (.typeAssertion (some xT) (some t') t "")) : Sem Value).run p w = .ok z w ∧ Rel σ v z := by
      by_cases e : t' = t
      · rw [if_pos e]
        rw [show Nat.beq t' t = true by rw [Nat.beq_eq]; exact e] at h
        exact holds hu h
      · rw [if_neg e]
        rw [show Nat.beq t' t = false by rw [← Bool.not_eq_true, Nat.beq_eq]; exact e] at h
        exact fails _ _ _ h
    cases d <;> first
      | exact key
      | exact (hn _ rfl).elim
  · cases h
end Go.Ev

namespace Go.Ev
open Go
set_option linter.unusedVariables false
set_option linter.unusedSimpArgs false
def Puts (p : Program) (σ : Sg) (v : V) (s : Sem Next) : Prop := ∀ w, ∃ x, s.run p w = .ok (.value x) w ∧ Rel σ v x
theorem Puts.of {p : Program} {σ : Sg} {v : V} {s : Sem Value} (h : ∀ w, ∃ x, s.run p w = .ok x w ∧ Rel σ v x) : Puts p σ v (do pure (.value (← s))) := fun w => by
  obtain ⟨x, hx, hR⟩ := h w
  exact ⟨x, by rw [run_ok hx]; rfl, hR⟩
theorem infosOk_run {p : Program} : ∀ (fs : List Field) (w : World), infosOk p fs = true → (fs.mapM fun f => (do pure (f.offset, ← sizeOf f.type) : Sem (Nat × Nat))).run p w = .ok (fs.map fun f => (f.offset, p.cellsOf f.type)) w := by
  intro fs
  induction fs with
  | nil => intro w _; rfl
  | cons f fs ih =>
    intro w h
    simp only [infosOk, Bool.and_eq_true] at h
    obtain ⟨h1, h2⟩ := h
    split at h1
    · rename_i i hi
      rw [List.mapM_cons]
      rw [run_ok (show (do pure (f.offset, ← sizeOf f.type) : Sem (Nat × Nat)).run p w = .ok (f.offset, p.cellsOf f.type) w by rw [run_ok (run_sizeOf hi w)]; rfl), run_ok (ih w h2)]
      rfl
    · cases h1
theorem mapM_array {α β : Type} (f : α → Sem β) (xs : Array α) : xs.mapM f = (List.toArray <$> xs.toList.mapM f) := Array.mapM_eq_mapM_toList ..
theorem run_map {α β : Type} {p : Program} {f : α → β} {e : Sem α} {a : α} {w w' : World} (h : e.run p w = .ok a w') : (f <$> e).run p w = .ok (f a) w' := by
  show (Sem.bind e (fun a => Sem.pure (f a))).run p w = _
  rw [run_bind, h]; rfl
theorem builtinN_run {p : Program} {σ : Sg} {b : Builtin} {ts : Array TypeId} {type : TypeId} {cs : Array Bool} {args : List V} {us : Array Value} {v : V} (hr : RelL σ args us.toList) (h : builtinN p b ts args = some v) : Puts p σ v (builtin b ts type cs us) := by
  have harr : ∀ l, us.toList = l → us = l.toArray := fun l e => by rw [← e]
  unfold builtinN at h
  split at h
  · rename_i x
    obtain ⟨X, r, e, hX, hs⟩ := hr.of_cons
    obtain rfl := hs.of_nil
    rw [harr _ e]
    split at h
    case h_2 => cases h
    rename_i t ht
    refine Puts.of fun w => ?_
    unfold lenN at h
    have h0 : ∀ (f : TypeDesc → Sem Value) d, p.underlying t = some d → (Builtin.len_ ts type #[X]).run p w = (Builtin.len_ ts type #[X]).run p w := fun _ _ _ => rfl
    split at h
    · rename_i l bts hd
      cases hX; cases h
      refine ⟨_, ?_, .int _ _⟩
      unfold Builtin.len_
      simp only [ht]
      exact run_ok (run_underlying hd w)
    · rename_i n el hd
      cases h
      refine ⟨_, ?_, .int _ _⟩
      unfold Builtin.len_
      simp only [ht]
      exact run_ok (run_underlying hd w)
    · rename_i el hd
      cases hX; cases h
      refine ⟨_, ?_, .int _ _⟩
      unfold Builtin.len_
      simp only [ht]
      exact run_ok (run_underlying hd w)
    · rename_i el a b n d c hd
      cases hX; cases h
      refine ⟨_, ?_, .int _ _⟩
      unfold Builtin.len_
      simp only [ht]
      exact run_ok (run_underlying hd w)
    · rename_i k el hd
      cases hX; cases h
      refine ⟨_, ?_, .int _ _⟩
      unfold Builtin.len_
      simp only [ht]
      exact run_ok (run_underlying hd w)
    · cases h
  · rename_i k a k' b'
    obtain ⟨X, r, e, hX, hs⟩ := hr.of_cons
    obtain ⟨Y, r, rfl, hY, hs⟩ := hs.of_cons
    obtain rfl := hs.of_nil
    rw [harr _ e]
    cases hX; cases hY
    simp only [bif_some, kindEq_iff, Option.some.injEq] at h
    obtain ⟨rfl, rfl⟩ := h
    refine Puts.of fun w => ⟨_, rfl, ?_⟩
    rw [intLt_eq]
    by_cases hlt : b' < a
    · rw [if_pos hlt, decide_eq_true hlt]; exact .int _ _
    · rw [if_neg hlt, decide_eq_false hlt]; exact .int _ _
  · rename_i k a k' b'
    obtain ⟨X, r, e, hX, hs⟩ := hr.of_cons
    obtain ⟨Y, r, rfl, hY, hs⟩ := hs.of_cons
    obtain rfl := hs.of_nil
    rw [harr _ e]
    cases hX; cases hY
    simp only [bif_some, kindEq_iff, Option.some.injEq] at h
    obtain ⟨rfl, rfl⟩ := h
    refine Puts.of fun w => ⟨_, rfl, ?_⟩
    rw [intLt_eq]
    by_cases hlt : a < b'
    · rw [if_pos hlt, decide_eq_true hlt]; exact .int _ _
    · rw [if_neg hlt, decide_eq_false hlt]; exact .int _ _
  · obtain ⟨X, r, e, hX, hs⟩ := hr.of_cons
    obtain rfl := hs.of_nil
    rw [harr _ e]
    split at h
    case h_2 => cases h
    rename_i t ht
    split at h
    case h_2 => cases h
    rename_i el hd
    cases hX; cases h
    refine Puts.of fun w => ⟨_, ?_, .int _ _⟩
    unfold Builtin.cap_
    simp only [ht]
    exact run_ok (run_underlying hd w)
  · obtain ⟨X, r, e, hX, hs⟩ := hr.of_cons
    obtain rfl := hs.of_nil
    rw [harr _ e]
    cases hX; cases h
    exact fun w => ⟨_, rfl, .nilp⟩
  · rename_i bb off ln cap sz
    obtain ⟨X, r, e, hX, hs⟩ := hr.of_cons
    obtain rfl := hs.of_nil
    rw [harr _ e]
    cases h
    cases hX with
    | sl _ _ _ _ a cap' hs hl hc ha ht =>
    refine Puts.of fun w => ⟨.pointer (some a), ?_, by rw [ha (by omega)]; exact .ptr _ hs⟩
    have e2 : Builtin.unsafeSliceData_ ts type #[.slice (some a) ln cap'] = pure (.pointer (some a)) := if_pos (c := cap' ≠ 0) (by omega)
    rw [e2]; rfl
  · obtain ⟨X, r, e, hX, hs⟩ := hr.of_cons
    obtain ⟨Y, r, rfl, hY, hs⟩ := hs.of_cons
    obtain rfl := hs.of_nil
    rw [harr _ e]
    cases hX; cases hY
    split at h
    case h_2 => cases h
    rename_i t ht
    cases h
    refine Puts.of fun w => ⟨.string .empty, ?_, Rel.str' rfl rfl⟩
    obtain ⟨r, rfl⟩ : ∃ r, ts = ⟨t :: r⟩ := by
      cases ts with | mk l => cases l with
        | nil => simp at ht
        | cons y r => simp at ht; exact ⟨r, by rw [ht]⟩
    rfl
  · obtain ⟨X, r, e, hX, hs⟩ := hr.of_cons
    obtain ⟨Y, r, rfl, hY, hs⟩ := hs.of_cons
    obtain rfl := hs.of_nil
    rw [harr _ e]
    cases hX; cases hY
    split at h
    case h_2 => cases h
    rename_i t ht
    cases h
    refine Puts.of fun w => ⟨.string .empty, ?_, Rel.str' rfl rfl⟩
    obtain ⟨r, rfl⟩ : ∃ r, ts = ⟨t :: r⟩ := by
      cases ts with | mk l => cases l with
        | nil => simp at ht
        | cons y r => simp at ht; exact ⟨r, by rw [ht]⟩
    rfl
  · cases h
end Go.Ev

namespace Go.Ev
open Go
set_option linter.unusedVariables false
set_option linter.unusedSimpArgs false
theorem nV_run {p : Program} {σ : Sg} {e : Env} {o : Oper} {v : V} {ρ : Operand → Value} (hO : OpR σ e ρ o.op.operands.toList) (h : nV p e o = some v) : Puts p σ v (execOp ρ o) := by
  obtain ⟨dst, op, type, pos, after, guard⟩ := o
  unfold nV at h
  dsimp only at h hO
  have val : ∀ {x : Operand} {u : V}, x ∈ op.operands.toList → evalO e x = some u → Rel σ u (ρ x) := fun hx hu => hO _ hx _ hu
  split at h
  · rename_i x
    exact fun w => ⟨ρ x, rfl, val (by simp [Op.operands]) h⟩
  · rename_i x
    exact fun w => ⟨ρ x, rfl, val (by simp [Op.operands]) h⟩
  · rename_i c a b
    split at h
    · rename_i hc
      have hcR := val (x := c) (by simp [Op.operands]) hc
      generalize hX : ρ c = X at hcR
      cases hcR
      refine fun w => ⟨ρ a, ?_, val (by simp [Op.operands]) h⟩
      simp only [execOp, hX]; rfl
    · rename_i hc
      have hcR := val (x := c) (by simp [Op.operands]) hc
      generalize hX : ρ c = X at hcR
      cases hcR
      refine fun w => ⟨ρ b, ?_, val (by simp [Op.operands]) h⟩
      simp only [execOp, hX]; rfl
    · cases h
  · rename_i t ps
    split at h
    case h_2 => cases h
    rename_i vs z hvs hz
    have hP : PartsR σ vs (ps.map fun (i, x) => (i, ρ x)).toList := by
      rw [Array.toList_map]
      exact evalParts_rel (fun x hx u hu => val (by simpa [Op.operands] using hx) hu) hvs
    refine Puts.of fun w => ?_
    obtain ⟨Z, hZ, hRz, i, hi⟩ := run_zero σ hz w
    show ∃ x, (Instr.build t (ps.map fun (i, x) => (i, ρ x))).run p w = .ok x w ∧ Rel σ v x
    unfold Instr.build
    split at h
    · rename_i fs hd
      simp only [bif_some, Option.map_eq_some_iff] at h
      obtain ⟨hinf, cs, hcs, rfl⟩ := h
      rw [run_ok hZ, run_ok (run_underlying hd w)]
      dsimp only
      obtain ⟨cells', hf, hR⟩ := fill_rel (place := ((fs.map fun f => (f.offset, p.cellsOf f.type))[·]?)) hP hRz.cells (by
        rw [← hcs]; congr 1; funext i; rw [Array.getElem?_map])
      have hm : (fs.mapM fun f => (do pure (f.offset, ← sizeOf f.type) : Sem (Nat × Nat))).run p w = .ok (fs.map fun f => (f.offset, p.cellsOf f.type)) w := by
        rw [mapM_array]
        rw [run_map (infosOk_run fs.toList w hinf)]
        congr 1
        rw [← Array.toList_map]
      rw [run_ok hm]
      refine ⟨.agg cells', ?_, Rel.aggL.2 hR⟩
      rw [hf]; rfl
    · rename_i n el hd
      split at h
      case h_2 => cases h
      rename_i s hs
      simp only [Option.map_eq_some_iff] at h
      obtain ⟨cs, hcs, rfl⟩ := h
      rw [run_ok hZ, run_ok (run_underlying hd w)]
      dsimp only
      rw [run_ok (sizeQ_run hs w)]
      obtain ⟨cells', hf, hR⟩ := fill_rel hP hRz.cells hcs
      refine ⟨.agg cells', ?_, Rel.aggL.2 hR⟩
      rw [hf]; rfl
    · cases h
  · rename_i x
    split at h
    case h_2 => cases h
    rename_i u hu
    have hR := val (x := x) (by simp [Op.operands]) hu
    generalize hX : ρ x = X at hR
    unfold nilCheckV at h
    split at h <;> first
      | (cases h; done)
      | (cases h
         cases hR <;> refine fun w => ⟨_, by simp only [execOp, hX]; rfl, ?_⟩ <;> constructor <;> assumption)
  · rename_i op' t x y yt
    split at h
    case h_2 => cases h
    rename_i a b ha hb
    exact Puts.of fun w => binV_run (val (x := x) (by simp [Op.operands]) ha) (val (x := y) (by simp [Op.operands]) hb) h w
  · rename_i op' t x
    split at h
    case h_2 => cases h
    rename_i a ha
    exact Puts.of fun w => unV_run (val (x := x) (by simp [Op.operands]) ha) h w
  · rename_i s d x
    split at h
    case h_2 => cases h
    rename_i a ha
    exact Puts.of fun w => convN_run (val (x := x) (by simp [Op.operands]) ha) h w
  · rename_i t x
    split at h
    case h_2 => cases h
    rename_i a ha
    have hR := val (x := x) (by simp [Op.operands]) ha
    refine Puts.of fun w => ?_
    show ∃ z, (Instr.makeInterface t (ρ x)).run p w = .ok z w ∧ Rel σ v z
    unfold Instr.makeInterface
    split at h
    · cases h
    · rename_i d hn hd
      cases h
      rw [run_ok (run_underlying hd w)]
      refine ⟨.iface t (ρ x), ?_, .iface t hR⟩
      cases d <;> first | rfl | exact (hn _ rfl).elim
    · cases h
  · rename_i f a b
    split at h
    case h_2 => cases h
    rename_i xs1 bs ha hb
    cases h
    have h1 := evalL_rel (σ := σ) (ρ := ρ) (fun x hx u hu => val (by simp [Op.operands]; exact .inl (by simpa using hx)) hu) ha
    have h2 := evalL_rel (σ := σ) (ρ := ρ) (fun x hx u hu => val (by simp [Op.operands]; exact .inr (by simpa using hx)) hu) hb
    refine Puts.of fun w => ⟨.func f (a.map ρ) (b.map ρ), rfl, ?_⟩
    rw [← Array.toList_map] at h1 h2
    have e1 := relL_arr.1 h1
    have e2 := relL_arr.1 h2
    exact .fn f _ _ _ _ e1.1 e2.1 e1.2 e2.2
  · rename_i t x lo hi mx
    split at h
    case h_2 => cases h
    rename_i u l' h' hu hl hh
    refine Puts.of fun w => ?_
    exact sliceV_run (val (x := x) (by simp [Op.operands]) hu) (opt_rel (fun y hy u hu => val (by subst hy; simp [Op.operands]) hu) hl) (opt_rel (fun y hy u hu => val (by subst hy; simp [Op.operands]) hu) hh) h w
  · rename_i s x f
    split at h
    case h_2 => cases h
    rename_i b i hx
    have hR := val (x := x) (by simp [Op.operands]) hx
    generalize hX : ρ x = X at hR
    cases hR with
    | @ptr _ cb o' tt _ hs =>
    split at h
    case h_2 => cases h
    rename_i fs hd
    split at h
    case h_2 => cases h
    rename_i fl hfl
    split at h
    case h_2 => cases h
    rename_i sz hsz
    cases h
    refine Puts.of fun w => ⟨.pointer (some ⟨cb, o' + (i + fl.offset), none⟩), ?_, .ptr _ hs⟩
    show (Instr.fieldAt s (ρ x) f).run p w = _
    rw [hX]
    unfold Instr.fieldAt
    rw [run_ok (run_underlying hd w)]
    dsimp only
    rw [hfl]
    dsimp only
    rw [run_ok (show (Instr.sureAddr (.pointer (some ⟨cb, o' + i, none⟩))).run p w = .ok ⟨cb, o' + i, none⟩ w from rfl)]
    have e1 : (fieldPlace ⟨cb, o' + i, none⟩ fl).run p w = .ok ⟨cb, o' + (i + fl.offset), none⟩ w := by
      unfold fieldPlace
      rw [run_ok (sizeQ_run hsz w), if_neg (by omega), add_mk, Nat.add_assoc]; rfl
    rw [run_ok e1]; rfl
  · rename_i t x f
    split at h
    case h_2 => cases h
    rename_i cs hx
    have hR := val (x := x) (by simp [Op.operands]) hx
    generalize hX : ρ x = X at hR
    cases hR with
    | agg _ us h1 h2 =>
    split at h
    case h_2 => cases h
    rename_i fs hd
    split at h
    case h_2 => cases h
    rename_i fl hfl
    refine Puts.of fun w => ?_
    obtain ⟨z, hz, hRz⟩ := run_part (relL_arr.2 ⟨h1, h2⟩) h w
    refine ⟨z, ?_, hRz⟩
    show (Instr.field t (ρ x) f).run p w = _
    rw [hX]
    unfold Instr.field
    rw [run_ok (run_underlying hd w)]
    dsimp only
    rw [hfl]
    exact hz
  · rename_i t x i
    split at h
    case h_2 => cases h
    rename_i a b ha hb
    exact Puts.of fun w => indexAddrV_run (val (x := x) (by simp [Op.operands]) ha) (val (x := i) (by simp [Op.operands]) hb) h w
  · rename_i t x i
    split at h
    case h_2 => cases h
    rename_i a b ha hb
    exact Puts.of fun w => indexV_run (val (x := x) (by simp [Op.operands]) ha) (val (x := i) (by simp [Op.operands]) hb) h w
  · rename_i x xT t ok
    split at h
    case h_2 => cases h
    rename_i a ha
    exact Puts.of fun w => assertV_run (val (x := x) (by simp [Op.operands]) ha) h w
  · rename_i t i
    split at h
    case h_2 => cases h
    rename_i vs ht
    have hR := val (x := t) (by simp [Op.operands]) ht
    generalize hX : ρ t = X at hR
    cases hR with
    | tup _ us h1 h2 =>
    obtain ⟨z, hz, hRz⟩ := (relL_arr.2 ⟨h1, h2⟩).get h
    refine Puts.of fun w => ⟨z, ?_, hRz⟩
    show (Instr.extract (ρ t) i).run p w = _
    rw [hX]
    unfold Instr.extract
    rw [Array.getElem?_toList] at hz
    dsimp only
    rw [hz]; rfl
  · rename_i b args ts
    split at h
    case h_2 => cases h
    rename_i vs hvs
    have h1 := evalL_rel (σ := σ) (ρ := ρ) (fun x hx u hu => val (by simp [Op.operands, Call.operands]; simpa using hx) hu) hvs
    rw [← Array.toList_map] at h1
    exact fun w => by
      obtain ⟨z, hz, hRz⟩ := builtinN_run (type := type) (cs := args.map fun | .const _ => true | _ => false) h1 h w
      refine ⟨z, ?_, hRz⟩
      rw [← hz]
      rfl
  · cases h
end Go.Ev

namespace Go.Ev
open Go
set_option linter.unusedVariables false
set_option linter.unusedSimpArgs false
def Does (base : Nat) (p : Program) (σ : Sg) (w : World) (s : Sem Next) : R → Prop
  | .val v m' => ∃ x σ' w', s.run p w = .ok (.value x) w' ∧ Rel σ' v x ∧ MR base m' σ' w' ∧ Tr base σ w σ' w'
  | .skip m' => ∃ σ' w', s.run p w = .ok .skip w' ∧ MR base m' σ' w' ∧ Tr base σ w σ' w'
  | .call f args m' => ∃ us w', s.run p w = .ok (.enter f us) w' ∧ RelL σ args us.toList ∧ MR base m' σ w' ∧ Tr base σ w σ w'
  | .fail => True
def Makes (base : Nat) (p : Program) (σ : Sg) (w : World) (s : Sem Value) (v : V) (m' : Mem) : Prop :=
  ∃ x σ' w', s.run p w = .ok x w' ∧ Rel σ' v x ∧ MR base m' σ' w' ∧ Tr base σ w σ' w'
theorem Makes.does {base : Nat} {p : Program} {σ : Sg} {w : World} {s : Sem Value} {v : V} {m' : Mem} (h : Makes base p σ w s v m') : Does base p σ w (do pure (.value (← s))) (.val v m') := by
  obtain ⟨x, σ', w', h1, h2, h3, h4⟩ := h
  exact ⟨x, σ', w', by rw [run_ok h1]; rfl, h2, h3, h4⟩
theorem Makes.same {base : Nat} {p : Program} {σ : Sg} {w : World} {s : Sem Value} {v : V} {m : Mem} {x : Value} (hM : MR base m σ w) (h : s.run p w = .ok x w) (hR : Rel σ v x) : Makes base p σ w s v m :=
  ⟨x, σ, w, h, hR, hM, Tr.refl _ _ _⟩
theorem cell_one {base : Nat} {p : Program} {m : Mem} {σ : Sg} {w : World} {b i cb o tt : Nat} {v : V} (h : MR base m σ w) (hs : σ b = some (cb, o, tt)) (hc : m.cell b i = some v) : ∃ x, (load ⟨cb, o + i, none⟩).run p w = .ok x w ∧ Rel σ v x := by
  obtain ⟨x, hx, hR⟩ := cell_read h hs hc
  exact ⟨x, by simp only [load, Sem.run, hx], hR⟩
theorem loadVar_run {base : Nat} {p : Program} {m : Mem} {σ : Sg} {w : World} {t : TypeId} {a v : V} {A : Value} (h : MR base m σ w) (hA : Rel σ a A) (hl : loadV p m t a = some v) :
    ∃ x, (Instr.loadAt t A).run p w = .ok x w ∧ Rel σ v x := by
  unfold loadV at hl
  split at hl
  · cases hl
  rename_i d hd
  obtain ⟨inf, hi⟩ := info_of_underlying hd
  split at hl
  · rename_i g o
    cases hA
    cases ha : isAggT p t with
    | true => rw [ha] at hl; simp at hl
    | false =>
      rw [ha] at hl
      simp only [cond_false] at hl
      obtain ⟨_, x, hx, hR⟩ := h.gl g o v hl
      refine ⟨x, ?_, hR.mono (zeroS_le σ)⟩
      unfold Instr.loadAt
      rw [run_ok (show (Instr.sureAddr (.pointer (some ⟨g, o, none⟩))).run p w = .ok ⟨g, o, none⟩ w from rfl)]
      unfold loadVar
      rw [run_ok (run_isAgg hd w), ha, if_neg (by simp)]
      simp only [load, Sem.run, hx]
  · rename_i b i
    cases hA with
    | @ptr _ cb o tt _ hs =>
    have e1 : (Instr.loadAt t (.pointer (some ⟨cb, o + i, none⟩))).run p w = (if isAggT p t then (do pure (.agg (← loadCells ⟨cb, o + i, none⟩ (← sizeOf t))) : Sem Value) else load ⟨cb, o + i, none⟩).run p w := by
      unfold Instr.loadAt
      rw [run_ok (show (Instr.sureAddr (.pointer (some ⟨cb, o + i, none⟩))).run p w = .ok ⟨cb, o + i, none⟩ w from rfl)]
      unfold loadVar
      rw [run_ok (run_isAgg hd w)]
    rw [e1]
    cases ha : isAggT p t with
    | true =>
      rw [ha] at hl
      simp only [cond_true] at hl
      split at hl
      · rename_i vs hvs
        cases hl
        obtain ⟨us, hR, _, _, hrun⟩ := row_read (p := p) h hs hvs
        refine ⟨.agg us.toArray, ?_, Rel.aggL.2 hR⟩
        rw [if_pos rfl, run_ok (run_sizeOf hi w), run_ok hrun]; rfl
      · cases hl
    | false =>
      rw [ha] at hl
      simp only [cond_false] at hl
      rw [if_neg (by simp)]
      exact cell_one h hs hl
  · cases hl
theorem storeVar_run {base : Nat} {p : Program} {m m' : Mem} {σ : Sg} {w : World} {t : TypeId} {a x : V} {A X : Value} (h : MR base m σ w) (hA : Rel σ a A) (hX : Rel σ x X) (hl : storeV p m t a x = some m') :
    ∃ w', (Instr.storeAt t A X).run p w = .ok () w' ∧ MR base m' σ w' ∧ Tr base σ w σ w' := by
  unfold storeV at hl
  split at hl
  · rename_i b i
    cases hA with
    | @ptr _ cb o tt _ hs =>
    split at hl
    case h_2 => cases hl
    rename_i s hsz
    simp only [bif_some, Nat.beq_eq] at hl
    obtain ⟨hlen, hw⟩ := hl
    have hc := hX.cells
    obtain ⟨w', hrun, hM, hT⟩ := h.write (p := p) hs hw hc
    refine ⟨w', ?_, hM, hT⟩
    unfold Instr.storeAt
    rw [run_ok (show (Instr.sureAddr (.pointer (some ⟨cb, o + i, none⟩))).run p w = .ok ⟨cb, o + i, none⟩ w from rfl)]
    unfold storeVar
    rw [run_ok (sizeQ_run hsz w)]
    have : X.cells.size = s := by rw [← Array.length_toList, ← hc.1]; exact hlen
    rw [if_neg (by simpa using this)]
    exact hrun
  · cases hl
theorem newRow_run (p : Program) (w : World) (el : TypeId) (cs : Array Value) : (newRow el cs).run p w = .ok ⟨w.heap.size, 0, none⟩ { w with heap := w.heap.push (.cells cs el) } := rfl
theorem MR.row {base : Nat} {p : Program} {m : Mem} {σ : Sg} {w : World} (h : MR base m σ w) (el : TypeId) {vs : List V} {us rest : List Value} (hr : RelL σ vs us) (tot : Nat) (htot : tot ≠ 0 → (us ++ rest).length = tot) :
    let cs := (us ++ rest).toArray
    let w' : World := { w with heap := w.heap.push (.cells cs el) }
    ∃ σ', (newRow el cs).run p w = .ok ⟨w.heap.size, 0, none⟩ w' ∧ MR base (m.new el (putL .nil 0 vs) vs.length tot).2 σ' w' ∧ Tr base σ w σ' w' ∧ σ' m.next = some (w.heap.size, 0, (us ++ rest).length) := by
  have hcs : ((us ++ rest).toArray).toList = us ++ rest := by simp
  obtain ⟨h1, h2⟩ := h.allocL el vs vs.length tot (us ++ rest).toArray us rest hr (Nat.le_refl _) hcs (fun ht => by simpa using htot ht)
  exact ⟨_, newRow_run p w el _, h1, h2, by rw [Sg.put_self]; simp⟩
theorem repL_length (z : List V) : ∀ n, (repL z n).length = n * z.length := by
  intro n
  induction n with
  | zero => simp [repL]
  | succ n ih => simp only [repL, List.length_append, ih]; rw [Nat.succ_mul]; omega
theorem range_rep {σ : Sg} {z : List V} {zs : Array Value} (h : RelL σ z zs.toList) : ∀ n, RelL σ (repL z n) ((List.range (n * zs.size)).map fun i => zs[i % zs.size]!) := by
  have hz : zs.size = z.length := by rw [h.1, Array.length_toList]
  intro n
  refine ⟨by rw [repL_length, List.length_map, List.length_range, hz], fun i v x hv hx => ?_⟩
  have hi : i < n * z.length := by rw [← repL_length]; exact (List.getElem?_eq_some_iff.1 hv).1
  rw [List.getElem?_map, List.getElem?_range (by rw [hz]; exact hi)] at hx
  simp only [Option.map_some, Option.some.injEq] at hx
  have key : ∀ n i, i < n * z.length → (repL z n)[i]? = z[i % z.length]? := by
    intro n
    induction n with
    | zero => intro i hi; omega
    | succ n ih =>
      intro i hi
      simp only [repL]
      by_cases h1 : i < z.length
      · rw [List.getElem?_append_left h1, Nat.mod_eq_of_lt h1]
      · rw [List.getElem?_append_right (by omega), ih (i - z.length) (by rw [Nat.succ_mul] at hi; omega), Nat.mod_eq_sub_mod (a := i) (by omega)]
  rw [key n i hi] at hv
  have hlt : i % zs.size < zs.size := Nat.mod_lt _ (by rw [hz]; rcases Nat.eq_zero_or_pos z.length with e | e; · rw [e] at hi; omega
                                                       · exact e)
  rw [getElem!_pos zs _ hlt] at hx
  subst hx
  refine h.2 (i % z.length) v _ hv ?_
  rw [Array.getElem?_toList, ← hz]
  exact Array.getElem?_eq_getElem hlt
end Go.Ev

namespace Go.Ev
open Go
set_option linter.unusedVariables false
set_option linter.unusedSimpArgs false
theorem array_map_range (n : Nat) (f : Nat → Value) : ((Array.range n).map f) = ((List.range n).map f ++ []).toArray := by
  rw [List.append_nil]
  apply Array.ext'
  simp
theorem roomOk_spec {p : Program} {e : TypeId} (h : roomOk p e = true) (σ : Sg) : ∃ z, zeroV p e = some z ∧ z.cells.length = p.cellsOf e ∧ oneL z.cells = true ∧ p.bytesOf e ≤ 2 ^ 16 ∧ ∃ Z i, (∀ w, (zeroValue e).run p w = .ok Z w) ∧ Rel σ z Z ∧ p.info? e = some i := by
  unfold roomOk at h
  simp only [Bool.and_eq_true, Nat.ble_eq] at h
  obtain ⟨h1, h2⟩ := h
  split at h1
  · rename_i z hz
    simp only [Bool.and_eq_true, Nat.beq_eq] at h1
    obtain ⟨Z, hZ, hR, i, hi⟩ := run_zero σ hz default
    refine ⟨z, hz, h1.1, h1.2, h2, Z, i, fun w => ?_, hR, hi⟩
    obtain ⟨Z', hZ', _⟩ := run_zero σ hz w
    unfold zeroValue at hZ hZ' ⊢
    rw [run_ok (run_typeInfo hi _)] at hZ hZ' ⊢
    cases hzz : i.zero with
    | none => rw [hzz] at hZ; cases hZ
    | some y => rw [hzz] at hZ; cases hZ; rfl
  · cases h1
theorem alloc_makes {base : Nat} {p : Program} {m : Mem} {σ : Sg} {w : World} (h : MR base m σ w) {t : TypeId} {z : V} (hz : zeroV p t = some z) : Makes base p σ w (Instr.alloc t true (.tuple #[])) (.ptr m.next 0) (m.newL t z.cells z.cells.length).2 := by
  obtain ⟨Z, hZ, hR, i, hi⟩ := run_zero σ hz w
  obtain ⟨σ', hrun, hM, hT, hs⟩ := h.row (p := p) t (rest := []) hR.cells z.cells.length (fun _ => by rw [List.append_nil, ← hR.cells.1])
  refine ⟨.pointer (some ⟨w.heap.size, 0, none⟩), σ', _, ?_, ?_, hM, hT⟩
  · unfold Instr.alloc
    rw [run_ok hZ]
    dsimp only
    rw [run_ok (show (newVar t Z).run p w = .ok _ _ from by
      have : (Z.cells.toList ++ []).toArray = Z.cells := by simp
      rw [this] at hrun
      exact hrun)]
    simp
  · exact .ptr (o := 0) 0 hs
theorem box_makes {base : Nat} {p : Program} {m : Mem} {σ : Sg} {w : World} (h : MR base m σ w) {t : TypeId} {v : V} {X : Value} (hR : Rel σ v X) : Makes base p σ w (Instr.box t X) (.ptr m.next 0) (m.newL t v.cells v.cells.length).2 := by
  obtain ⟨σ', hrun, hM, hT, hs⟩ := h.row (p := p) t (rest := []) hR.cells v.cells.length (fun _ => by rw [List.append_nil, ← hR.cells.1])
  refine ⟨.pointer (some ⟨w.heap.size, 0, none⟩), σ', _, ?_, .ptr (o := 0) 0 hs, hM, hT⟩
  unfold Instr.box
  rw [run_ok (show (newVar t X).run p w = .ok _ _ from by
    have : (X.cells.toList ++ []).toArray = X.cells := by simp
    rw [this] at hrun
    exact hrun)]
  simp
theorem slNew {σ' : Sg} {g cb n l c sz : Nat} (hs : σ' g = some (cb, 0, n)) (hl : l ≤ c) (hn : c * sz ≤ n) : Rel σ' (.sl g 0 l c sz) (.slice (some ⟨cb, 0, none⟩) l c) :=
  .sl 0 l c sz ⟨cb, 0, none⟩ c hs hl (Nat.le_refl _) (fun _ => rfl) (by omega)
theorem makeSlice_makes {base : Nat} {p : Program} {m m' : Mem} {σ : Sg} {w : World} (h : MR base m σ w) {t : TypeId} {l c v : V} {L C : Value} (hL : Rel σ l L) (hC : Rel σ c C) (hv : makeSliceV p m t l c = some (v, m')) : Makes base p σ w (Instr.makeSlice t L C) v m' := by
  unfold makeSliceV at hv
  split at hv
  case h_2 => cases hv
  rename_i e l' c' hd hl hc
  obtain ⟨k, rfl⟩ := asNat_rel hl hL
  obtain ⟨k2, rfl⟩ := asNat_rel hc hC
  simp only [bif_some, Bool.and_eq_true, Nat.ble_eq] at hv
  obtain ⟨⟨⟨h1, h2⟩, h3⟩, hv⟩ := hv
  obtain ⟨z, hz, hzl, _, hb, Z, i, hZ, hR, hi⟩ := roomOk_spec h3 σ
  rw [hz] at hv
  simp only [Option.some.injEq, Prod.mk.injEq] at hv
  obtain ⟨rfl, rfl⟩ := hv
  have hb' : i.bytes ≤ 65536 := by simpa [Program.bytesOf, hi] using hb
  have hZl : Z.cells.size = p.cellsOf e := by rw [← hzl, hR.cells.1, Array.length_toList]
  have hrep := range_rep (σ := σ) hR.cells c'
  have hlen : (repL z.cells c').length = c' * p.cellsOf e := by rw [repL_length, hzl]
  obtain ⟨σ', hrun, hM, hT, hs⟩ := h.row (p := p) e (rest := []) hrep (c' * p.cellsOf e) (fun _ => by rw [List.append_nil, ← hrep.1, hlen])
  rw [hlen] at hM
  have hs' : σ' m.next = some (w.heap.size, 0, c' * p.cellsOf e) := by
    rw [hs, List.append_nil, ← hrep.1, hlen]
  refine ⟨.slice (some ⟨w.heap.size, 0, none⟩) l' c', σ', _, ?_, slNew hs' h1 (Nat.le_refl _), hM, hT⟩
  unfold Instr.makeSlice
  rw [run_ok (run_underlying hd w)]
  dsimp only
  rw [run_ok (show (asInt (.int k (.ofNat l'))).run p w = .ok (.ofNat l') w from rfl), run_ok (show (asInt (.int k2 (.ofNat c'))).run p w = .ok (.ofNat c') w from rfl), run_ok (run_typeInfo hi w)]
  have wl : IntKind.i64.wrap (.ofNat l') = .ofNat l' := by rw [← wrapI_eq]; simp only [wrapI, cond_eq_ite, Nat.blt_eq]; rw [if_pos (by omega)]
  have wc : IntKind.i64.wrap (.ofNat c') = .ofNat c' := by rw [← wrapI_eq]; simp only [wrapI, cond_eq_ite, Nat.blt_eq]; rw [if_pos (by omega)]
  have tl : (i.bytes : Int) * (c' : Int) ≤ 2 ^ 48 := by
    have h5 : i.bytes * c' ≤ 65536 * 2 ^ 24 := Nat.mul_le_mul hb' h2
    have : ((i.bytes * c' : Nat) : Int) ≤ ((65536 * 2 ^ 24 : Nat) : Int) := Int.ofNat_le.2 h5
    rw [Int.natCast_mul] at this
    omega
  simp only [wl, wc]
  rw [if_neg (by
    simp only [Bool.or_eq_true, decide_eq_true_eq, Int.ofNat_eq_natCast]
    omega)]
  rw [run_ok (show (askRoom ((Int.ofNat c').toNat * i.bytes)).run p w = .ok () w by
    unfold askRoom; split <;> rfl)]
  rw [run_ok (run_sizeOf hi w)]
  by_cases h0 : (Int.ofNat c').toNat * p.cellsOf e = 0
  · rw [if_pos h0, run_ok (run_pure _ _ _)]
    have hcs : (Array.range ((Int.ofNat c').toNat * p.cellsOf e)).map (fun x => (#[] : Array Value)[x % (#[] : Array Value).size]!) = ((List.range (c' * Z.cells.size)).map (fun i => Z.cells[i % Z.cells.size]!) ++ []).toArray := by
      rw [array_map_range, hZl]
      show ((List.range (c' * p.cellsOf e)).map _ ++ []).toArray = _
      rw [show c' * p.cellsOf e = 0 from h0]; rfl
    rw [hcs, run_ok hrun]
    rfl
  · rw [if_neg h0, run_ok (hZ w), run_ok (run_pure _ _ _)]
    have hcs : (Array.range ((Int.ofNat c').toNat * p.cellsOf e)).map (fun x => Z.cells[x % Z.cells.size]!) = ((List.range (c' * Z.cells.size)).map (fun i => Z.cells[i % Z.cells.size]!) ++ []).toArray := by
      rw [array_map_range, hZl]; rfl
    rw [hcs, run_ok hrun]
    rfl
theorem askRoom_run (p : Program) (n : Nat) (w : World) : (askRoom n).run p w = .ok () w := by unfold askRoom; split <;> rfl
theorem zeroCells_size (z : Array Value) (n : Nat) : (Builtin.zeroCells z n).size = n * z.size := by simp [Builtin.zeroCells]
theorem choose_cap (p : Program) (w : World) (need old : Nat) (el : TypeId) : ∃ c, need ≤ c ∧ (choose (.appendCap need old el)).run p w = .ok c { w with drawn := w.drawn + 1 } :=
  ⟨_, Nat.le_add_right need _, rfl⟩
theorem append_tail {base : Nat} {p : Program} {m m' : Mem} {σ : Sg} {w : World} (h : MR base m σ w) {e : TypeId} {s v : V} {S : Value} {k : Nat} {cs : List V} {us : List Value} (hS : Rel σ s S) (hcs : RelL σ cs us) (hk : k ≠ 0) (hlen : cs.length = k * p.cellsOf e)
    (hv : appendTo p m e s k cs = some (v, m')) (sb : Option Addr) (sLen sCap : Nat) (hSe : S = .slice sb sLen sCap) (K : Sem Value)
    (hK1 : ∀ a, sb = some a → sLen + k ≤ sCap → K.run p w = (storeCells (a.add (sLen * p.cellsOf e)) us >>= fun _ => pure (.slice (some a) (sLen + k) sCap) : Sem Value).run p w)
    (hK2 : ¬ sLen + k ≤ sCap → sLen + k ≤ 2 ^ 24 → ∀ c olds, sLen + k ≤ c → olds.length = sLen * p.cellsOf e → (Builtin.firstCells (p.cellsOf e) sLen S).run p { w with drawn := w.drawn + 1 } = .ok olds.toArray { w with drawn := w.drawn + 1 } →
      (choose (.appendCap (sLen + k) sCap e)).run p w = .ok c { w with drawn := w.drawn + 1 } → ∃ rest, (olds ++ us ++ rest).length = c * p.cellsOf e ∧
      K.run p w = (newRow e (olds ++ us ++ rest).toArray >>= fun a => pure (.slice (some a) (sLen + k) c) : Sem Value).run p { w with drawn := w.drawn + 1 }) : Makes base p σ w K v m' := by
  unfold appendTo at hv
  split at hv
  · cases hS
    cases hSe
    simp only [bif_some, Bool.and_eq_true, Nat.ble_eq, Option.some.injEq, Prod.mk.injEq] at hv
    obtain ⟨⟨h1, h2⟩, rfl, rfl⟩ := hv
    obtain ⟨c, hc, hch⟩ := choose_cap p w (0 + k) 0 e
    obtain ⟨rest, hl, hrun⟩ := hK2 (by omega) (by omega) c [] hc (by simp) rfl hch
    have hM := h.drew (w.drawn + 1)
    obtain ⟨σ', hr, hM', hT, hs⟩ := hM.row (p := p) e (rest := rest) hcs 0 (fun ht => absurd rfl ht)
    rw [hlen] at hM'
    simp only [List.nil_append, Nat.zero_add] at hrun hl hc
    refine ⟨.slice (some ⟨w.heap.size, 0, none⟩) k c, σ', _, ?_, ?_, hM', (Tr.drew base σ w _).trans hT⟩
    · rw [hrun, run_ok hr]; rfl
    · refine .sl 0 k k _ ⟨w.heap.size, 0, none⟩ c hs (Nat.le_refl _) hc (fun _ => rfl) ?_
      show 0 + 0 + c * p.cellsOf e ≤ _
      rw [hl]; omega
  · rename_i b off len cap sz
    simp only [bif_some, Bool.and_eq_true, Nat.ble_eq, Nat.beq_eq] at hv
    obtain ⟨⟨rfl, hbig⟩, hv⟩ := hv
    cases hS with
    | @sl _ cb o tt off len cap _ a cap' hs hl hc ha ht =>
    simp only [Value.slice.injEq] at hSe
    obtain ⟨rfl, rfl, rfl⟩ := hSe
    by_cases hin : len + k ≤ cap
    · unfold Mem.append at hv
      rw [show Nat.ble (len + k) cap = true by rw [Nat.ble_eq]; exact hin] at hv
      simp only [cond_true] at hv
      split at hv
      · rename_i m2 hw
        cases hv
        obtain ⟨w', hrun, hM, hT⟩ := h.write (p := p) hs hw hcs
        refine ⟨.slice (some a) (len + k) cap', σ, w', ?_, .sl _ _ _ _ a cap' hs hin hc ha ht, hM, hT⟩
        rw [hK1 a rfl (by omega), ha (by omega), add_mk, Nat.add_assoc, run_ok hrun]; rfl
      · cases hv
    · obtain ⟨k0, hkb, hkl, hro, hn, rfl, hfz, hone, hel, ch, pre, post, low, rest, hch, hcut, hlow, rfl, rfl⟩ := append_spec hin hv
      have hk0 : Live m b k0 := ⟨hkb, hkl⟩
      obtain ⟨hM1, hlive, hche, hrest⟩ := h.cut hk0 hn hch hcut hlow
      have hlive1 := (hlive b _).2 (.inl ⟨rfl, rfl⟩)
      have hch1 : ({ m with blks := killL (killL (m.blks.set b (.cells { k0 with n := len * p.cellsOf e, tot := 0 })) pre) low, fams := m.fams.set k0.fam (b :: rest) } : Mem).fams.get k0.fam = some (b :: rest) := by
        simp [T.get_set]
      have hcellb := h.bl b k0 cb o tt hk0 hs
      obtain ⟨hbase, ds, lo, hi, hh, htt, _, hdsz, hfro⟩ := hcellb.own hro
      have hmul : (len + k) * p.cellsOf e = len * p.cellsOf e + k * p.cellsOf e := Nat.add_mul ..
      have huslen : us.length = k * p.cellsOf e := by rw [← hcs.1, hlen]
      have hns : σ m.next = none := by
        cases hs : σ m.next with
        | none => rfl
        | some x => exact absurd (h.dom _ _ hs) (Nat.lt_irrefl _)
      have hle : ∀ x, σ.le (σ.put m.next x) := fun x => Sg.le_put hns
      have hfs : ∀ f, (m.fams.set k0.fam (m.next :: b :: rest)).get f = if f = k0.fam then some (m.next :: b :: rest) else (m.fams.set k0.fam (b :: rest)).get f := fun f => by
        simp only [T.get_set]; split <;> rfl
      have hcell0 : ∀ j, w.cell? ⟨cb, j, none⟩ = ds[j]? := fun j => by simp [World.cell?, hh]
      have hold0 : ∀ i u, i < len * p.cellsOf e → k0.c.get i = some u → ∃ x, ds[o + i]? = some x ∧ Rel σ u x := fun i u hi hu => by
        obtain ⟨x, hx, hR⟩ := hcellb.cell i u (by omega) hu
        exact ⟨x, by rw [← hcell0]; exact hx, hR⟩
      by_cases hA : len + k ≤ cap'
      ·
        have ha' := ha (by omega)
        have hcm : (len + k) * p.cellsOf e ≤ cap' * p.cellsOf e := Nat.mul_le_mul_right _ hA
        obtain ⟨w', cs', hrun, h1, h2, h3, h4, h5, h6, h7, h8⟩ := storeCells_run (p := p) us w cb (o + len * p.cellsOf e) 0 ds k0.el lo hi hh (by omega) (fun q hq1 hq2 => by
          rcases hfro with e | e <;> omega) (oneL_rel hcs hone)
        simp only [Nat.add_zero] at h3
        refine ⟨.slice (some a) (len + k) cap', σ.put m.next (cb, o, tt), w', ?_, ?_, hM1.grow (kg := ⟨k0.fam, (len + k) * p.cellsOf e, k0.fz, k0.el, 0, false, true, putL k0.c (len * p.cellsOf e) cs⟩) hlive1 hch1 hro ⟨rfl, rfl, rfl, by show len * p.cellsOf e ≤ (len + k) * p.cellsOf e; omega⟩ (cb, o, tt) ?_ ?_ ?_ (by omega) ?_ ?_ ?_ _ hfs, ?_⟩
        · rw [hK1 a rfl hA, ha', add_mk, Nat.add_zero, run_ok hrun]; rfl
        · exact .sl 0 _ _ _ a cap' (Sg.put_self _ _ _) (Nat.le_refl _) hA (fun _ => by rw [ha']) ht
        · refine ⟨fun i u hi2 hu => ?_, fun _ => ⟨hbase, cs', lo, hi, h1, h2.trans htt, fun ht => absurd rfl ht, by rw [h2]; show o + (len + k) * p.cellsOf e ≤ _; omega, hfro⟩⟩
          have hi2' : i < (len + k) * p.cellsOf e := hi2
          simp only [putL_get] at hu
          show ∃ x, w'.cell? ⟨cb, o + i, none⟩ = some x ∧ _
          have hc' : w'.cell? ⟨cb, o + i, none⟩ = cs'[o + i]? := by simp [World.cell?, h1]
          rw [hc', h3]
          split at hu
          · rename_i hji
            rw [if_pos (by rw [← hcs.1]; omega)]
            obtain ⟨x, hx, hR⟩ := hcs.get hu
            exact ⟨x, by rw [show o + i - (o + len * p.cellsOf e) = i - len * p.cellsOf e by omega]; exact hx, hR.mono (hle _)⟩
          · rename_i hji
            rw [if_neg (by omega)]
            obtain ⟨x, hx, hR⟩ := hold0 i u (by omega) hu
            exact ⟨x, hx, hR.mono (hle _)⟩
        · intro c k2 cb2 o2 tt2 hc2 hs2
          have hol := hM1.bl c k2 cb2 o2 tt2 hc2 hs2
          by_cases ecb : cb2 = cb
          · subst ecb
            have hfam2 : o2 = o ∧ k2.n ≤ len * p.cellsOf e := by
              by_cases ecb : c = b
              · subst ecb
                rw [hs] at hs2; cases hs2
                have := hc2.uniq hlive1
                subst this
                exact ⟨rfl, Nat.le_refl _⟩
              · rcases (hlive c k2).1 hc2 with ⟨e1, _⟩ | ⟨_, e2, e3, e4⟩
                · exact absurd e1 ecb
                · obtain ⟨q1, q2, q3⟩ := h.kin hk0 hro (hche ▸ hch) ecb e2 e3 e4 hs hs2
                  exact ⟨q2, by rw [← sizeB_live e4]; exact hrest c q1⟩
            obtain ⟨rfl, hn2⟩ := hfam2
            refine ⟨fun i u hi2 hu => ?_, fun hr2 => ?_⟩
            · obtain ⟨x, hx, hR⟩ := hol.cell i u hi2 hu
              refine ⟨x, ?_, hR.mono (hle _)⟩
              rw [hcell0] at hx
              have hc' : w'.cell? ⟨cb2, o2 + i, none⟩ = cs'[o2 + i]? := by simp [World.cell?, h1]
              rw [hc', h3, if_neg (by omega)]; exact hx
            · obtain ⟨g1, cs2, lo2, hi2, g2, gt, g3, g4, g5⟩ := hol.own hr2
              rw [hh] at g2
              simp only [Option.some.injEq, Obj.cells.injEq, Prod.mk.injEq] at g2
              obtain ⟨rfl, ge, rfl, rfl⟩ := g2
              exact ⟨g1, cs', lo, hi, ge ▸ h1, h2.trans gt, fun ht => ⟨(g3 ht).1, h2.trans (g3 ht).2⟩, by rw [h2]; exact g4, g5⟩
          · exact hol.mono (hle _) (h4 cb2 ecb)
        · intro c k2 o2 tt2 hc2 hs2
          by_cases ecb : c = b
          · subst ecb
            rw [hs] at hs2; cases hs2
            have := hc2.uniq hlive1
            subst this
            exact ⟨rfl, rfl⟩
          · rcases (hlive c k2).1 hc2 with ⟨e1, _⟩ | ⟨_, e2, e3, e4⟩
            · exact absurd e1 ecb
            · obtain ⟨q1, q2, q3⟩ := h.kin hk0 hro (hche ▸ hch) ecb e2 e3 e4 hs hs2
              exact ⟨q3, q2⟩
        · intro c us2 clk hc2
          refine (h4 c ?_).trans hc2
          rintro rfl; rw [hh] at hc2; cases hc2
        · intro c hc2
          refine h4 c ?_
          rintro rfl; omega
        · show cb < w'.heap.size
          rw [h8]; exact h.rng b _ hs
        · refine ⟨hle _, fun c x hx => ?_, h5, h6, h7, by omega, fun c hc2 hcond => h4 c ?_, fun c x hx => ?_, rfl⟩
          · by_cases e1 : c = m.next
            · subst e1; rw [Sg.put_self] at hx; cases hx; exact .inl ⟨b, _, hs, rfl⟩
            · rw [Sg.put_ne _ _ e1] at hx; exact .inl ⟨c, x, hx, rfl⟩
          · rintro rfl
            rcases hcond with hb | hn
            · omega
            · exact hn b _ hs rfl
          · by_cases e1 : c = m.next
            · subst e1; exact .inr h.nle
            · rw [Sg.put_ne _ _ e1] at hx; exact .inl hx
      ·
        obtain ⟨c, hcn, hch2⟩ := choose_cap p w (len + k) cap' e
        have holdl : ((List.range (len * p.cellsOf e)).map fun i => ds[o + i]!).length = len * p.cellsOf e := by simp
        have holdg : ∀ i, i < len * p.cellsOf e → ((List.range (len * p.cellsOf e)).map fun i => ds[o + i]!)[i]? = ds[o + i]? := fun i hi => by
          rw [List.getElem?_map, List.getElem?_range hi]
          simp only [Option.map_some]
          rw [getElem!_pos ds _ (by omega), Array.getElem?_eq_getElem (by omega)]
        have hfirst : (Builtin.firstCells (p.cellsOf e) len (.slice (some a) len cap')).run p { w with drawn := w.drawn + 1 } = .ok ((List.range (len * p.cellsOf e)).map fun i => ds[o + i]!).toArray { w with drawn := w.drawn + 1 } := by
          unfold Builtin.firstCells loadCells
          by_cases h0 : len * p.cellsOf e = 0
          · rw [h0]; rfl
          · have hp : 0 < len := by rcases Nat.eq_zero_or_pos len with e0 | e0; · rw [e0, Nat.zero_mul] at h0; exact absurd rfl h0
                                    · exact e0
            have := loadCellsFrom_run (p := p) (w := { w with drawn := w.drawn + 1 }) (a := a) (len * p.cellsOf e) 0 #[] _ holdl (fun j hj => by
              rw [ha (by omega), add_mk, holdg j hj, Nat.zero_add, Nat.add_zero]
              exact hcell0 (o + j))
            simpa using this
        obtain ⟨rest2, hl2, hrun⟩ := hK2 hA hbig c _ hcn holdl hfirst hch2
        have hrow := newRow_run p { w with drawn := w.drawn + 1 } e (((List.range (len * p.cellsOf e)).map fun i => ds[o + i]!) ++ us ++ rest2).toArray
        have hM2 := (hM1.drew (w.drawn + 1)).push (.cells (((List.range (len * p.cellsOf e)).map fun i => ds[o + i]!) ++ us ++ rest2).toArray e)
        have hself : ({ w with drawn := w.drawn + 1, heap := w.heap.push (.cells (((List.range (len * p.cellsOf e)).map fun i => ds[o + i]!) ++ us ++ rest2).toArray e) } : World).heap[w.heap.size]? = some (.cells (((List.range (len * p.cellsOf e)).map fun i => ds[o + i]!) ++ us ++ rest2).toArray e (0, 0)) := by simp
        have hcm : (len + k) * p.cellsOf e ≤ c * p.cellsOf e := Nat.mul_le_mul_right _ hcn
        refine ⟨.slice (some ⟨w.heap.size, 0, none⟩) (len + k) c, σ.put m.next (w.heap.size, 0, c * p.cellsOf e), _, ?_, ?_, hM2.grow (w' := { w with drawn := w.drawn + 1, heap := w.heap.push (.cells (((List.range (len * p.cellsOf e)).map fun i => ds[o + i]!) ++ us ++ rest2).toArray e) }) (kg := ⟨k0.fam, (len + k) * p.cellsOf e, k0.fz, k0.el, 0, false, true, putL k0.c (len * p.cellsOf e) cs⟩) hlive1 hch1 hro ⟨rfl, rfl, rfl, by show len * p.cellsOf e ≤ (len + k) * p.cellsOf e; omega⟩ (w.heap.size, 0, c * p.cellsOf e) ?_ ?_ ?_ (Nat.le_refl _) (fun _ _ _ hc => hc) (fun _ _ => rfl) (by simp) _ hfs, ?_⟩
        · rw [hrun, run_ok hrow]; rfl
        · exact .sl 0 _ _ _ ⟨w.heap.size, 0, none⟩ c (Sg.put_self _ _ _) (Nat.le_refl _) hcn (fun _ => rfl) (by omega)
        · refine ⟨fun i u hi2 hu => ?_, fun _ => ⟨h.lt, _, 0, 0, by rw [hself]; exact congrArg some (by rw [hel]), by simpa using hl2, fun ht => absurd rfl ht, by
            show 0 + (len + k) * p.cellsOf e ≤ _
            rw [List.size_toArray, hl2]; omega, .inl rfl⟩⟩
          have hi2' : i < (len + k) * p.cellsOf e := hi2
          simp only [putL_get] at hu
          have hc' : ({ w with drawn := w.drawn + 1, heap := w.heap.push (.cells (((List.range (len * p.cellsOf e)).map fun i => ds[o + i]!) ++ us ++ rest2).toArray e) } : World).cell? ⟨w.heap.size, 0 + i, none⟩ = (((List.range (len * p.cellsOf e)).map fun i => ds[o + i]!) ++ us ++ rest2)[i]? := by
            simp only [World.cell?, hself, Nat.zero_add]; simp
          show ∃ x, World.cell? _ ⟨w.heap.size, 0 + i, none⟩ = some x ∧ _
          rw [hc']
          split at hu
          · rename_i hji
            obtain ⟨x, hx, hR⟩ := hcs.get hu
            have hlt : i - len * p.cellsOf e < us.length := (List.getElem?_eq_some_iff.1 hx).1
            refine ⟨x, ?_, hR.mono (hle _)⟩
            rw [List.append_assoc, List.getElem?_append_right (by rw [holdl]; omega), holdl, List.getElem?_append_left hlt]
            exact hx
          · rename_i hji
            obtain ⟨x, hx, hR⟩ := hold0 i u (by omega) hu
            refine ⟨x, ?_, hR.mono (hle _)⟩
            rw [List.append_assoc, List.getElem?_append_left (by rw [holdl]; omega), holdg i (by omega)]
            exact hx
        · intro c2 k2 cb2 o2 tt2 hc2 hs2
          exact (hM2.bl c2 k2 cb2 o2 tt2 hc2 hs2).mono (hle _) rfl
        · intro c2 k2 o2 tt2 hc2 hs2
          have := h.rng c2 _ hs2
          simp at this
        · refine (Tr.drew base σ w (w.drawn + 1)).trans ⟨hle _, fun c2 x hx => ?_, rfl, rfl, rfl, by simp, fun cb hc _ => heap_push _ cb hc, fun c2 x hx => ?_, rfl⟩
          · by_cases e1 : c2 = m.next
            · subst e1; rw [Sg.put_self] at hx; cases hx; exact .inr (Nat.le_refl _)
            · rw [Sg.put_ne _ _ e1] at hx; exact .inl ⟨c2, x, hx, rfl⟩
          · by_cases e1 : c2 = m.next
            · subst e1; exact .inr h.nle
            · rw [Sg.put_ne _ _ e1] at hx; exact .inl hx
  · cases hv
end Go.Ev
