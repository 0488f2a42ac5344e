/- Several texts in one: contracts of functions of the program, and what they lean on. In part written by a program of this session over the kit's print, in part by hand. -/
import Derived.Test.YtppcjlplihiiiaaDoorYParseBlanks1
import Derived.Orders
namespace Go.Ev
open Go
set_option linter.unusedVariables false
set_option linter.unusedSimpArgs false
theorem firstCells_run {base : Nat} {p : Program} {m : Mem} {σ : Sg} {w : World} (h : MR base m σ w) {argTypes : Array TypeId} {e : TypeId} {x : V} {X : Value} {k : Nat} {cs : List V} (hX : Rel σ x X) (hx : addedV p m argTypes e x = some (k, cs)) (hn : ∀ kk n, x ≠ .int kk n)
    (hlen : cs.length = k * p.cellsOf e ∨ k = 0) : (Builtin.lenOf X).run p w = .ok k w ∧ ∃ us, RelL σ cs us ∧ ∀ w2 : World, w2.heap = w.heap → (Builtin.firstCells (p.cellsOf e) k X).run p w2 = .ok us.toArray w2 := by
  unfold addedV at hx
  split at hx
  · cases hX; cases hx
    exact ⟨rfl, [], .nil σ, fun _ _ => rfl⟩
  · rename_i b off len cap sz
    cases hX with
    | @sl _ cb o tt _ _ _ _ a cap' hs hl hc ha ht =>
    simp only [Option.map_eq_some_iff, Prod.mk.injEq] at hx
    obtain ⟨vs, hvs, rfl, rfl⟩ := hx
    refine ⟨rfl, ?_⟩
    obtain ⟨us, hR, hul, hcell, _⟩ := row_read (p := p) h hs hvs
    refine ⟨us, hR, fun w2 hw => ?_⟩
    unfold Builtin.firstCells loadCells
    by_cases h0 : len * p.cellsOf e = 0
    · rw [h0] at hul ⊢
      obtain rfl := List.eq_nil_of_length_eq_zero hul
      rfl
    · have hp : 0 < len := by rcases Nat.eq_zero_or_pos len with e0 | e0; · rw [e0, Nat.zero_mul] at h0; exact absurd rfl h0
                              · exact e0
      have := loadCellsFrom_run (p := p) (w := w2) (a := a) (len * p.cellsOf e) 0 #[] us hul (fun j hj => by
        rw [ha (by omega), add_mk, Nat.zero_add, cell_heap (w := w) (by rw [hw])]
        exact hcell j hj)
      simpa using this
  · rename_i l bts
    cases hX with
    | str s =>
    cases hx
    refine ⟨rfl, (natsOf s).map fun (n : Nat) => Value.int .u8 (n : Int), ⟨?_, fun i v x hv hx => ?_⟩, fun w2 hw => ?_⟩
    · have : ∀ n i, (bytesFrom (bytesOf s) n i).length = n := by
        intro n
        induction n with
        | zero => intro i; rfl
        | succ n ih => intro i; simp [bytesFrom, ih]
      simp only [byteVs, List.length_map, this, natsOf_length]
    · have key : ∀ n i j, j < n → (bytesFrom (bytesOf s) n i)[j]? = some (byteAt (bytesOf s) (i + j)) := by
        intro n
        induction n with
        | zero => intro i j hj; omega
        | succ n ih =>
          intro i j hj
          cases j with
          | zero => simp [bytesFrom]
          | succ j => simp only [bytesFrom, List.getElem?_cons_succ]; rw [ih (i + 1) j (by omega)]; congr 2; omega
      rw [List.getElem?_map] at hx
      simp only [byteVs, List.getElem?_map] at hv
      cases hg : (natsOf s)[i]? with
      | none => rw [hg] at hx; cases hx
      | some n =>
        have hi : i < s.size := by rw [← natsOf_length]; exact (List.getElem?_eq_some_iff.1 hg).1
        rw [key s.size 0 i hi] at hv
        rw [nat_get s hi] at hx
        simp only [Option.map_some, Option.some.injEq, Nat.zero_add] at hv hx
        subst hv hx
        exact .int _ _
    · unfold Builtin.firstCells
      show Result.ok _ _ = _
      congr 1
      have : s.extract 0 s.size = s := ByteArray.extract_zero_size
      rw [this]
      apply Array.ext'
      simp [natsOf]
  · exact absurd rfl (hn _ _)
  · cases hx
theorem run_pos {α : Type} {p : Program} {w : World} {c : Prop} [Decidable c] {a b : Sem α} (h : c) : (if c then a else b).run p w = a.run p w := by rw [if_pos h]
theorem run_neg {α : Type} {p : Program} {w : World} {c : Prop} [Decidable c] {a b : Sem α} (h : ¬ c) : (if c then a else b).run p w = b.run p w := by rw [if_neg h]
theorem array_head {α : Type} {ts : Array α} {t : α} (h : ts[0]? = some t) : ∃ r, ts = ⟨t :: r⟩ := by
  cases ts with | mk l => cases l with
    | nil => simp at h
    | cons y r => simp at h; exact ⟨r, by rw [h]⟩
theorem isSlice_rel {σ : Sg} {s : V} {S : Value} (h : Rel σ s S) (hs : isSlice s = true) : ∃ sb sLen sCap, S = .slice sb sLen sCap ∧ sLen ≤ sCap := by
  cases h <;> simp [isSlice] at hs
  case sl h1 h2 h3 h4 h5 => exact ⟨_, _, _, rfl, by omega⟩
  case nils => exact ⟨_, _, _, rfl, Nat.le_refl _⟩
structure AppArgs (p : Program) (w : World) (ts : Array TypeId) (type e : TypeId) (X : Value) (k : Nat) (us : List Value) (i : TypeInfo) (Z : Value) (sb : Option Addr) (sLen sCap : Nat) : Prop where
  inp : sLen + k ≤ sCap → (Builtin.append_ ts type #[.slice sb sLen sCap, X]).run p w = (match sb with
    | some a => (storeCells (a.add (sLen * p.cellsOf e)) us >>= fun _ => pure (.slice (some a) (sLen + k) sCap) : Sem Value)
    | none => pure (.slice none (sLen + k) sCap)).run p w
  out : ¬ sLen + k ≤ sCap → sLen + k ≤ 2 ^ 24 → ∀ c (olds : List Value) (r : Result Value), (choose (.appendCap (sLen + k) sCap e)).run p w = .ok c { w with drawn := w.drawn + 1 } →
    (Builtin.firstCells (p.cellsOf e) sLen (.slice sb sLen sCap)).run p { w with drawn := w.drawn + 1 } = .ok olds.toArray { w with drawn := w.drawn + 1 } →
    (newRow e (olds.toArray ++ us.toArray ++ Builtin.zeroCells Z.cells (c - (sLen + k))) >>= fun a => pure (.slice (some a) (sLen + k) c) : Sem Value).run p { w with drawn := w.drawn + 1 } = r →
    (Builtin.append_ ts type #[.slice sb sLen sCap, X]).run p w = r
theorem appArgs_len {p : Program} {w : World} {ts : Array TypeId} {type st e : TypeId} {X : Value} {k : Nat} {us : List Value} {i : TypeInfo} {Z : Value} {sb : Option Addr} {sLen sCap : Nat} (hst : ts[0]? = some st) (hd : p.underlying st = some (.slice e)) (hi : p.info? e = some i) (hb : i.bytes ≤ 65536)
    (hZ : ∀ w, (zeroValue e).run p w = .ok Z w) (hnum : ∀ t, ts[1]? = some t → ∃ d, p.underlying t = some d ∧ ∀ kk, d ≠ .int kk) (hlen : (Builtin.lenOf X).run p w = .ok k w) (hfirst : ∀ w2 : World, w2.heap = w.heap → (Builtin.firstCells (p.cellsOf e) k X).run p w2 = .ok us.toArray w2) :
    AppArgs p w ts type e X k us i Z sb sLen sCap := by
  obtain ⟨r, rfl⟩ := array_head hst
  have tail1 : ∀ {α : Type} (f : Bool → Sem α) (res : Result α), (f false).run p w = res → (match (⟨st :: r⟩ : Array TypeId)[1]? with | some xType => (underlying xType >>= fun d => (pure (match d with | .int _ => true | _ => false) : Sem Bool) >>= f) | none => ((pure false : Sem Bool) >>= f)).run p w = res := by
    intro α f res hf
    cases r with
    | nil => exact Eq.trans (run_ok (run_pure _ _ _)) hf
    | cons t r =>
      obtain ⟨d, hd2, hdn⟩ := hnum t rfl
      refine Eq.trans (run_ok (run_underlying hd2 w)) ?_
      refine Eq.trans (run_ok (run_pure _ _ _)) ?_
      rw [← hf]
      cases d <;> first | rfl | exact absurd rfl (hdn _)
  constructor
  · intro hle
    refine Eq.trans (run_ok (run_underlying hd w)) ?_
    refine Eq.trans (run_ok (run_sizeOf hi w)) ?_
    refine tail1 _ _ ?_
    refine Eq.trans (run_neg (by simp)) ?_
    refine Eq.trans (run_ok hlen) ?_
    refine Eq.trans (run_pos hle) ?_
    refine Eq.trans (run_ok (a := us.toArray) (w' := w) ?_) ?_
    · exact Eq.trans (run_pos (by simp)) (hfirst w rfl)
    · cases sb <;> rfl
  · intro hle hbig c olds res hch hold hres
    refine Eq.trans (run_ok (run_underlying hd w)) ?_
    refine Eq.trans (run_ok (run_sizeOf hi w)) ?_
    refine tail1 _ _ ?_
    refine Eq.trans (run_neg (by simp)) ?_
    refine Eq.trans (run_ok hlen) ?_
    refine Eq.trans (run_neg hle) ?_
    refine Eq.trans (run_ok (run_typeInfo hi w)) ?_
    have hmax : IntKind.i64.max = 9223372036854775807 := by decide
    refine Eq.trans (run_neg (fun hh => by have := hh.1; rw [hmax] at this; omega)) ?_
    refine Eq.trans (run_ok (run_typeInfo hi w)) ?_
    have hcap : ¬ Builtin.nextslicecap (sLen + k) sCap * i.bytes > 2 ^ 48 := by
      have h1 := nextslicecap_le (n := sLen + k) (c := sCap) (by omega)
      have h2 : Builtin.nextslicecap (sLen + k) sCap * i.bytes ≤ (2 * 2 ^ 24 + 512) * 65536 := Nat.mul_le_mul (by omega) hb
      omega
    refine Eq.trans (run_neg hcap) ?_
    refine Eq.trans (run_ok hch) ?_
    refine Eq.trans (run_ok (run_typeInfo hi _)) ?_
    refine Eq.trans (run_ok (askRoom_run p _ _)) ?_
    refine Eq.trans (run_ok hold) ?_
    refine Eq.trans (run_ok (a := us.toArray) (w' := { w with drawn := w.drawn + 1 }) ?_) ?_
    · exact Eq.trans (run_pos (by simp)) (hfirst _ rfl)
    refine Eq.trans (run_ok (hZ _)) ?_
    exact hres
theorem appArgs_zeros {p : Program} {w : World} {ts : Array TypeId} {type st e t : TypeId} {k : Nat} {i : TypeInfo} {Z : Value} {sb : Option Addr} {sLen sCap : Nat} {kk : IntKind} (hst : ts[0]? = some st) (hd : p.underlying st = some (.slice e)) (hi : p.info? e = some i) (hb : i.bytes ≤ 65536)
    (hZ : ∀ w, (zeroValue e).run p w = .ok Z w) (hZl : Z.cells.size = p.cellsOf e) (ht : ts[1]? = some t) (hd2 : p.underlying t = some (.int kk)) (hk : k ≤ 2 ^ 24) :
    AppArgs p w ts type e (.int .i64 (.ofNat k)) k (Builtin.zeroCells Z.cells k).toList i Z sb sLen sCap := by
  obtain ⟨r, rfl⟩ := array_head hst
  have ht2 : ∃ r2, r = t :: r2 := by
    cases r with
    | nil => simp at ht
    | cons y r => simp at ht; exact ⟨r, by rw [ht]⟩
  obtain ⟨r2, rfl⟩ := ht2
  have wl : IntKind.i64.wrap (.ofNat k) = .ofNat k := by rw [← wrapI_eq]; simp only [wrapI, cond_eq_ite, Nat.blt_eq]; rw [if_pos (by omega)]
  have tl : ¬ IntKind.i64.wrap (.ofNat k) * (i.bytes : Int) > 2 ^ 48 := by
    rw [wl]
    have h5 : k * i.bytes ≤ 2 ^ 24 * 65536 := Nat.mul_le_mul hk hb
    have : ((k * i.bytes : Nat) : Int) ≤ ((2 ^ 24 * 65536 : Nat) : Int) := Int.ofNat_le.2 h5
    rw [Int.natCast_mul] at this
    simp only [Int.ofNat_eq_natCast]
    omega
  have hm : (IntKind.i64.wrap (.ofNat k)).toNat = k := by rw [wl]; rfl
  have happ : ∀ w2, (if k * p.cellsOf e = 0 then pure #[] else (zeroValue e >>= fun z => pure (Builtin.zeroCells z.cells k)) : Sem (Array Value)).run p w2 = .ok (Builtin.zeroCells Z.cells k).toList.toArray w2 := fun w2 => by
    split
    · rename_i h0
      have : Builtin.zeroCells Z.cells k = #[] := Array.eq_empty_of_size_eq_zero (by rw [zeroCells_size, hZl, h0])
      rw [this]; rfl
    · rw [run_ok (hZ w2)]; simp [run_pure]
  constructor
  · intro hle
    refine Eq.trans (run_ok (run_underlying hd w)) ?_
    refine Eq.trans (run_ok (run_sizeOf hi w)) ?_
    refine Eq.trans (run_ok (run_underlying hd2 w)) ?_
    refine Eq.trans (run_ok (run_pure _ _ _)) ?_
    refine Eq.trans (run_pos rfl) ?_
    refine Eq.trans (run_ok (show (asInt (.int .i64 (.ofNat k))).run p w = .ok (.ofNat k) w from rfl)) ?_
    refine Eq.trans (run_neg (by rw [wl]; simp only [Int.ofNat_eq_natCast]; omega)) ?_
    refine Eq.trans (run_ok (run_typeInfo hi w)) ?_
    refine Eq.trans (run_neg tl) ?_
    refine Eq.trans (run_ok (run_pure _ _ _)) ?_
    rw [hm]
    refine Eq.trans (run_pos hle) ?_
    refine Eq.trans (run_ok (a := (Builtin.zeroCells Z.cells k).toList.toArray) (w' := w) ?_) ?_
    · exact Eq.trans (run_neg (by simp)) (happ w)
    · cases sb <;> rfl
  · intro hle hbig c olds res hch hold hres
    refine Eq.trans (run_ok (run_underlying hd w)) ?_
    refine Eq.trans (run_ok (run_sizeOf hi w)) ?_
    refine Eq.trans (run_ok (run_underlying hd2 w)) ?_
    refine Eq.trans (run_ok (run_pure _ _ _)) ?_
    refine Eq.trans (run_pos rfl) ?_
    refine Eq.trans (run_ok (show (asInt (.int .i64 (.ofNat k))).run p w = .ok (.ofNat k) w from rfl)) ?_
    refine Eq.trans (run_neg (by rw [wl]; simp only [Int.ofNat_eq_natCast]; omega)) ?_
    refine Eq.trans (run_ok (run_typeInfo hi w)) ?_
    refine Eq.trans (run_neg tl) ?_
    refine Eq.trans (run_ok (run_pure _ _ _)) ?_
    rw [hm]
    refine Eq.trans (run_neg hle) ?_
    refine Eq.trans (run_ok (run_typeInfo hi w)) ?_
    have hmax : IntKind.i64.max = 9223372036854775807 := by decide
    refine Eq.trans (run_neg (fun hh => by have := hh.1; rw [hmax] at this; omega)) ?_
    refine Eq.trans (run_ok (run_typeInfo hi w)) ?_
    have hcap : ¬ Builtin.nextslicecap (sLen + k) sCap * i.bytes > 2 ^ 48 := by
      have h1 := nextslicecap_le (n := sLen + k) (c := sCap) (by omega)
      have h2 : Builtin.nextslicecap (sLen + k) sCap * i.bytes ≤ (2 * 2 ^ 24 + 512) * 65536 := Nat.mul_le_mul (by omega) hb
      omega
    refine Eq.trans (run_neg hcap) ?_
    refine Eq.trans (run_ok hch) ?_
    refine Eq.trans (run_ok (run_typeInfo hi _)) ?_
    refine Eq.trans (run_ok (askRoom_run p _ _)) ?_
    refine Eq.trans (run_ok hold) ?_
    refine Eq.trans (run_ok (a := (Builtin.zeroCells Z.cells k).toList.toArray) (w' := { w with drawn := w.drawn + 1 }) ?_) ?_
    · exact Eq.trans (run_neg (by simp)) (happ _)
    refine Eq.trans (run_ok (hZ _)) ?_
    exact hres
theorem append_makes {base : Nat} {p : Program} {m m' : Mem} {σ : Sg} {w : World} (h : MR base m σ w) {ts : Array TypeId} {type : TypeId} {s x v : V} {S X : Value} (hS : Rel σ s S) (hX : Rel σ x X) (hv : appendV p m ts s x = some (v, m')) : Makes base p σ w (Builtin.append_ ts type #[S, X]) v m' := by
  unfold appendV at hv
  split at hv
  · cases hv
  rename_i st hst
  split at hv
  case h_2 => cases hv
  rename_i e hd
  simp only [bif_some, Bool.and_eq_true] at hv
  obtain ⟨⟨hroom, hnum⟩, hv⟩ := hv
  obtain ⟨z, hz, hzl, _, hb, Z, i, hZ, hRz, hi⟩ := roomOk_spec hroom σ
  have hZl : Z.cells.size = p.cellsOf e := by rw [← hzl, hRz.cells.1, Array.length_toList]
  have hb' : i.bytes ≤ 65536 := by simpa [Program.bytesOf, hi] using hb
  split at hv
  · cases hv
  rename_i k cs hadd
  have hsl : isSlice s = true := by
    cases hk : Nat.beq k 0 with
    | true => rw [hk] at hv; simp only [cond_true, bif_some] at hv; exact hv.1
    | false =>
      rw [hk] at hv
      simp only [cond_false, bif_some] at hv
      have := hv.2
      unfold appendTo at this
      split at this <;> first | rfl | (cases this; done)
  obtain ⟨sb, sLen, sCap, rfl, hlc⟩ := isSlice_rel hS hsl
  have hcl : k ≠ 0 → cs.length = k * p.cellsOf e ∧ appendTo p m e s k cs = some (v, m') := fun hk => by
    rw [show Nat.beq k 0 = false by rw [← Bool.not_eq_true, Nat.beq_eq]; exact hk] at hv
    simp only [cond_false, bif_some, Nat.beq_eq] at hv
    exact hv
  have hargs : ∃ us, RelL σ cs us ∧ AppArgs p w ts type e X k us i Z sb sLen sCap := by
    by_cases hint : ∃ kk n, x = .int kk n
    · obtain ⟨kk, n, rfl⟩ := hint
      cases hX
      unfold addedV at hadd
      split at hadd <;> first | (cases hadd; done) | skip
      all_goals rename_i hh
      all_goals first | (cases hh; done) | skip
      rename_i n'
      cases hh
      split at hadd
      case h_2 => cases hadd
      rename_i t ht
      split at hadd
      case h_2 => cases hadd
      rename_i kk z' hd2 hz'
      simp only [bif_some, Nat.ble_eq, Option.some.injEq, Prod.mk.injEq] at hadd
      obtain ⟨hle, rfl, rfl⟩ := hadd
      rw [hz] at hz'; cases hz'
      refine ⟨_, ?_, appArgs_zeros hst hd hi hb' hZ hZl ht hd2 hle⟩
      have := range_rep (σ := σ) hRz.cells n'
      unfold Builtin.zeroCells
      rw [array_map_range]
      simpa using this
    · have hnot : ∀ kk n, x ≠ .int kk n := fun kk n e => hint ⟨kk, n, e⟩
      obtain ⟨hlen, us, hR, hfirst⟩ := firstCells_run h hX hadd hnot (by
        by_cases hk : k = 0
        · exact .inr hk
        · exact .inl (hcl hk).1)
      refine ⟨us, hR, appArgs_len hst hd hi hb' hZ (fun t ht => ?_) hlen hfirst⟩
      unfold numOk at hnum
      rw [ht] at hnum
      dsimp only at hnum
      split at hnum
      · cases hnum
      · split at hnum
        · exact absurd rfl (hnot _ _)
        · cases hnum
      · rename_i d hn hd2
        exact ⟨d, hd2, fun kk e => hn kk e⟩
  obtain ⟨us, hR, hA⟩ := hargs
  by_cases hk : k = 0
  · subst hk
    simp only [show Nat.beq 0 0 = true from rfl, cond_true, bif_some, Option.some.injEq, Prod.mk.injEq] at hv
    obtain ⟨_, rfl, rfl⟩ := hv
    have hnil : cs = [] := by
      unfold addedV at hadd
      split at hadd
      · cases hadd; rfl
      · simp only [Option.map_eq_some_iff, Prod.mk.injEq] at hadd
        obtain ⟨vs, hvs, rfl, rfl⟩ := hadd
        obtain ⟨_, _, _, hl, _⟩ := row_spec hvs
        exact List.eq_nil_of_length_eq_zero (by rw [hl, Nat.zero_mul])
      · cases hadd; rfl
      · split at hadd
        case h_2 => cases hadd
        split at hadd
        case h_2 => cases hadd
        simp only [bif_some, Option.some.injEq, Prod.mk.injEq] at hadd
        obtain ⟨_, rfl, rfl⟩ := hadd
        rfl
      · cases hadd
    subst hnil
    obtain rfl := hR.of_nil
    refine Makes.same (x := .slice sb sLen sCap) h ?_ hS
    rw [hA.inp (by omega)]
    cases sb <;> rfl
  · obtain ⟨hl, hto⟩ := hcl hk
    refine append_tail h hS hR hk hl hto sb sLen sCap rfl _ (fun a ha hle => ?_) (fun hle hbig c olds hcn hol hfirst hch => ?_)
    · subst ha
      exact hA.inp hle
    · refine ⟨(Builtin.zeroCells Z.cells (c - (sLen + k))).toList, ?_, ?_⟩
      · simp only [List.length_append, Array.length_toList, zeroCells_size, hZl, hol, ← hR.1, hl]
        rw [← Nat.add_mul, ← Nat.add_mul]
        congr 1; omega
      · refine hA.out hle hbig c olds _ hch hfirst ?_
        have : (olds ++ us ++ (Builtin.zeroCells Z.cells (c - (sLen + k))).toList).toArray = olds.toArray ++ us.toArray ++ Builtin.zeroCells Z.cells (c - (sLen + k)) := by
          apply Array.ext'
          simp
        rw [this]
end Go.Ev

namespace Go.Ev
open Go
set_option linter.unusedVariables false
set_option linter.unusedSimpArgs false
theorem copy_makes {base : Nat} {p : Program} {m m' : Mem} {σ : Sg} {w : World} (h : MR base m σ w) {ts : Array TypeId} {type : TypeId} {d s v : V} {D S : Value} (hD : Rel σ d D) (hS : Rel σ s S) (hv : copyV p m ts d s = some (v, m')) : Makes base p σ w (Builtin.copy_ ts type #[D, S]) v m' := by
  unfold copyV at hv
  split at hv
  · cases hv
  rename_i dt hdt
  split at hv
  case h_2 => cases hv
  rename_i e hd
  split at hv
  case h_2 => cases hv
  rename_i sz b off len cap s1 b' off' len' cap2 s2 hsz
  simp only [bif_some, Bool.and_eq_true, Nat.beq_eq, Nat.blt_eq] at hv
  obtain ⟨⟨⟨rfl, rfl⟩, hpos⟩, hv⟩ := hv
  obtain ⟨r, rfl⟩ := array_head hdt
  cases hD with
  | @sl _ cb o tt _ _ _ _ a cap' hs hl hc ha ht =>
  cases hS with
  | @sl _ cb2 o2 tt2 _ _ _ _ a2 cap2' hs2 hl2 hc2 ha2 ht2 =>
  have hmin : (bif Nat.ble len' len then len' else len) = Nat.min len' len := by
    simp only [cond_eq_ite, Nat.ble_eq]; rfl
  rw [hmin] at hv
  split at hv
  case h_2 => cases hv
  rename_i cs hcs
  split at hv
  case h_2 => cases hv
  rename_i m2 hw
  cases hv
  obtain ⟨us, hR, hul, hcell, _⟩ := row_read (p := p) h hs2 hcs
  obtain ⟨w', hrun, hM, hT⟩ := h.write (p := p) hs hw hR
  refine ⟨.int .i64 (.ofNat (Nat.min len' len)), σ, w', ?_, .int _ _, hM, hT⟩
  refine Eq.trans (run_ok (run_underlying hd w)) ?_
  refine Eq.trans (run_ok (show (Builtin.lenOf (.slice (some a2) len' cap2')).run p w = .ok len' w from rfl)) ?_
  refine Eq.trans (run_ok (sizeQ_run hsz w)) ?_
  have hfirst : (Builtin.firstCells sz (Nat.min len' len) (.slice (some a2) len' cap2')).run p w = .ok us.toArray w := by
    unfold Builtin.firstCells loadCells
    by_cases h0 : Nat.min len' len * sz = 0
    · rw [h0] at hul ⊢
      obtain rfl := List.eq_nil_of_length_eq_zero hul
      rfl
    · have hp : 0 < Nat.min len' len := by rcases Nat.eq_zero_or_pos (Nat.min len' len) with e0 | e0; · rw [e0, Nat.zero_mul] at h0; exact absurd rfl h0
                                           · exact e0
      have hp2 : 0 < len' := Nat.lt_of_lt_of_le hp (Nat.min_le_left _ _)
      have := loadCellsFrom_run (p := p) (w := w) (a := a2) (Nat.min len' len * sz) 0 #[] us hul (fun j hj => by
        rw [ha2 (by omega), add_mk, Nat.zero_add]
        exact hcell j hj)
      simpa using this
  refine Eq.trans (run_ok hfirst) ?_
  rw [ha (by omega)]
  refine Eq.trans (run_ok (a := ()) (w' := w') ?_) rfl
  simpa using hrun
theorem freeze_get (w : World) (cb x n : Nat) (c : Nat) : (w.freeze ⟨cb, x, none⟩ n).heap[c]? = if c = cb ∧ n ≠ 0 then (w.heap[c]?).map (fun | .cells d el (lo, hi) => .cells d el (if lo == hi then (x, x + n) else (min lo x, max hi (x + n))) | o => o) else w.heap[c]? := by
  unfold World.freeze
  by_cases hn : n = 0
  · rw [if_pos hn, if_neg (by simp [hn])]
  · rw [if_neg hn]
    simp only [Array.getElem?_modify]
    by_cases hc : c = cb
    · subst hc; simp [hn]; rfl
    · rw [if_neg (fun e => hc e.symm), if_neg (by simp [hc])]
theorem freezeB_spec {m m' : Mem} {b hi : Nat} (hf : m.freezeB b hi = some m') : ∃ k, Live m b k ∧ k.ro = false ∧ hi ≤ k.n ∧ ∃ ch pre post, m.fams.get k.fam = some ch ∧ cutAt b ch = (pre, post) ∧
    ((pre = [] ∧ post = [] ∧ m' = { m with blks := m.blks.set b (.cells { k with fz := bif Nat.ble hi k.fz then k.fz else hi }) }) ∨
     m' = { m with blks := killL (killL (m.blks.set b (.cells { k with fz := bif Nat.ble hi k.fz then k.fz else hi })) pre) post, fams := m.fams.set k.fam [b] }) := by
  unfold Mem.freezeB at hf
  split at hf
  case h_2 => cases hf
  rename_i k hk
  simp only [bif_some, Bool.and_eq_true, Bool.not_eq_true', Nat.ble_eq] at hf
  obtain ⟨⟨⟨h1, h2⟩, h3⟩, hf⟩ := hf
  refine ⟨k, ⟨hk, h1⟩, h2, h3, ?_⟩
  split at hf
  · rename_i x hx
    simp only [bif_some, Nat.beq_eq, Option.some.injEq] at hf
    obtain ⟨rfl, rfl⟩ := hf
    exact ⟨[x], [], [], hx, by simp [cutAt], .inl ⟨rfl, rfl, rfl⟩⟩
  · rename_i ch hch _
    cases hf
    exact ⟨ch, (cutAt b ch).1, (cutAt b ch).2, by assumption, rfl, .inr rfl⟩
  · cases hf
theorem MR.freezeB {base : Nat} {m m' : Mem} {σ : Sg} {w : World} (h : MR base m σ w) {b hi cb o tt i n : Nat} (hs : σ b = some (cb, o, tt)) (hf : m.freezeB b hi = some m') (hin : i + n ≤ hi) :
    MR base m' σ (w.freeze ⟨cb, o + i, none⟩ n) ∧ Tr base σ w σ (w.freeze ⟨cb, o + i, none⟩ n) := by
  obtain ⟨k, hk, hro, hhi, ch, pre, post, hch, hcut, hm'⟩ := freezeB_spec hf
  obtain ⟨ch', hch', hbin⟩ := h.fam b k hk
  rw [hch] at hch'; cases hch'
  have hchain := h.chain _ _ hch
  have e1 := cutAt_spec hbin hcut
  obtain ⟨hbase, cs, lo, hi2, hh, htt, htot, hcsz, hfz⟩ := (h.bl b k cb o tt hk hs).own hro
  have hget := freeze_get w cb (o + i) n
  have hother : ∀ c, c ≠ cb → (w.freeze ⟨cb, o + i, none⟩ n).heap[c]? = w.heap[c]? := fun c hc => by rw [hget, if_neg (by simp [hc])]
  have hsame : ∃ lo' hi', (w.freeze ⟨cb, o + i, none⟩ n).heap[cb]? = some (.cells cs k.el (lo', hi')) ∧ (lo' = hi' ∨ hi' ≤ o + (bif Nat.ble hi k.fz then k.fz else hi)) := by
    have hfz' : k.fz ≤ (bif Nat.ble hi k.fz then k.fz else hi) ∧ hi ≤ (bif Nat.ble hi k.fz then k.fz else hi) := by
      simp only [cond_eq_ite, Nat.ble_eq]; split <;> omega
    rw [hget]
    by_cases hn : n = 0
    · rw [if_neg (by simp [hn])]
      exact ⟨lo, hi2, hh, by omega⟩
    · rw [if_pos ⟨rfl, hn⟩, hh]
      simp only [Option.map_some]
      by_cases hl : lo = hi2
      · rw [if_pos (by simpa using hl)]
        exact ⟨_, _, rfl, .inr (by omega)⟩
      · rw [if_neg (by simpa using hl)]
        exact ⟨_, _, rfl, .inr (by rcases hfz with e | e; · exact absurd e hl
                                   · omega)⟩
  obtain ⟨lo', hi', hh', hfz'⟩ := hsame
  have hcell : ∀ c j, (w.freeze ⟨cb, o + i, none⟩ n).cell? ⟨c, j, none⟩ = w.cell? ⟨c, j, none⟩ := fun c j => by
    by_cases e : c = cb
    · subst e; simp [World.cell?, hh, hh']
    · exact cell_heap (hother c e)
  have hsz : (w.freeze ⟨cb, o + i, none⟩ n).heap.size = w.heap.size := by
    unfold World.freeze; split <;> simp
  refine ⟨?_, ⟨σ.le_refl, fun b x h => .inl ⟨b, x, h, rfl⟩, by unfold World.freeze; split <;> rfl, by unfold World.freeze; split <;> rfl, by unfold World.freeze; split <;> rfl, by omega, fun c hc hcond => hother c ?_, fun _ _ h => .inl h, rfl⟩⟩
  · subst e1
    refine h.upd (k' := { k with fz := bif Nat.ble hi k.fz then k.fz else hi }) (pre := pre) (low := post) (rest := []) hk (by rw [hch]; simp) ⟨hk.2, rfl, rfl, Nat.le_refl _, fun x hx => by cases hx⟩ ?_ ?_ ?_ ?_ ?_ ?_ ?_ ?_ (by omega) ?_ ?_
    · intro c k2
      rcases hm' with ⟨rfl, rfl, rfl⟩ | rfl
      · show LiveB (m.blks.set b _) c k2 ↔ _
        unfold LiveB Live
        rw [T.get_set]
        by_cases hc : c = b
        · subst hc
          simp only [if_true, Option.some.injEq, Blk.cells.injEq, true_and, ne_eq, not_true, false_and, or_false]
          constructor
          · rintro ⟨rfl, _⟩; rfl
          · rintro rfl; exact ⟨rfl, hk.2⟩
        · simp [hc]
      · show LiveB (killL (killL (m.blks.set b _) pre) post) c k2 ↔ _
        rw [killL_live, killL_live]
        unfold LiveB Live
        rw [T.get_set]
        by_cases hc : c = b
        · subst hc
          have hnd := hchain.nodup
          rw [List.nodup_append] at hnd
          have hp : c ∉ pre := fun hp => hnd.2.2 c hp c (by simp) rfl
          have hl : c ∉ post := (List.nodup_cons.1 hnd.2.1).1
          simp only [hp, hl, not_false_eq_true, true_and, if_true, Option.some.injEq, Blk.cells.injEq, ne_eq, not_true, false_and, or_false]
          constructor
          · rintro ⟨rfl, _⟩; rfl
          · rintro rfl; exact ⟨rfl, hk.2⟩
        · simp only [if_neg hc, hc, false_and, false_or, ne_eq, not_false_eq_true, true_and]
          constructor
          · rintro ⟨a, b, c⟩; exact ⟨b, a, c⟩
          · rintro ⟨a, b, c⟩; exact ⟨b, a, c⟩
    · intro r es
      have : (m.blks.set b (.cells { k with fz := bif Nat.ble hi k.fz then k.fz else hi })).get r = some (.map es) ↔ m.blks.get r = some (.map es) := by
        rw [T.get_set]
        split
        · subst_vars; simp [hk.1]
        · rfl
      rcases hm' with ⟨rfl, rfl, rfl⟩ | rfl
      · exact this
      · show (killL (killL (m.blks.set b _) pre) post).get r = _ ↔ _
        rw [killL_map, killL_map]; exact this
    · intro f
      rcases hm' with ⟨rfl, rfl, rfl⟩ | rfl
      · show m.fams.get f = _
        split
        · subst_vars; rw [hch]; rfl
        · rfl
      · show (m.fams.set k.fam [b]).get f = _
        rw [T.get_set]
    · rcases hm' with ⟨rfl, rfl, rfl⟩ | rfl <;> rfl
    · rcases hm' with ⟨rfl, rfl, rfl⟩ | rfl <;> rfl
    · intro c hc
      have hcb : c ≠ b := by rintro rfl; rw [hk.1] at hc; cases hc
      rcases hm' with ⟨rfl, rfl, rfl⟩ | rfl
      · show (m.blks.set b _).get c = none
        rw [T.get_set, if_neg hcb]; exact hc
      · refine killL_none _ _ _ (killL_none _ _ _ ?_)
        rw [T.get_set, if_neg hcb]; exact hc
    · intro cb2 o2 tt2 hs2
      rw [hs] at hs2; cases hs2
      refine ⟨fun j v hj hv => ?_, fun _ => ⟨hbase, cs, lo', hi', hh', htt, htot, hcsz, hfz'⟩⟩
      rw [hcell]
      exact (h.bl b k cb o tt hk hs).cell j v hj hv
    · intro c k2 cb2 o2 tt2 hne hp hl hc hs2
      have hold := h.bl c k2 cb2 o2 tt2 hc hs2
      by_cases e : cb2 = cb
      · subst e
        obtain ⟨hcr, _, _⟩ := h.kin (rest := []) hk hro (by rw [hch]; simp) hne hp hl hc hs hs2
        cases hcr
      · exact hold.mono σ.le_refl (hother cb2 e)
    · intro c us2 clk hc
      refine (hother c ?_).trans hc
      rintro rfl; rw [hh] at hc; cases hc
    · intro c hc
      refine hother c ?_
      rintro rfl; omega
  · rintro rfl
    rcases hcond with hb | hn
    · omega
    · exact hn b _ hs rfl
theorem makeMap_makes {base : Nat} {p : Program} {m : Mem} {σ : Sg} {w : World} (h : MR base m σ w) (t : TypeId) : Makes base p σ w (Instr.makeMap t none) (.map m.next) { m with next := m.next + 1, blks := m.blks.set m.next (.map []) } := by
  have hnew := h.new m.next (Nat.le_refl _)
  have hns : σ m.next = none := by
    cases hs : σ m.next with
    | none => rfl
    | some x => exact absurd (h.dom _ _ hs) (Nat.lt_irrefl _)
  have hle : σ.le (σ.put m.next (w.heap.size, 0, 0)) := Sg.le_put hns
  have hp := h.push (.map #[] 0)
  have hcases : ∀ c y, σ.put m.next (w.heap.size, 0, 0) c = some y → (c = m.next ∧ y = (w.heap.size, 0, 0)) ∨ (c ≠ m.next ∧ σ c = some y) := fun c y hy => by
    by_cases e : c = m.next
    · subst e; rw [Sg.put_self] at hy; cases hy; exact .inl ⟨rfl, rfl⟩
    · rw [Sg.put_ne _ _ e] at hy; exact .inr ⟨e, hy⟩
  have hlv : ∀ c k, Live { m with next := m.next + 1, blks := m.blks.set m.next (.map []) } c k ↔ Live m c k := fun c k => by
    unfold Live
    simp only [T.get_set]
    by_cases e : c = m.next
    · subst e; simp [hnew.1]
    · simp [e]
  have hne : ∀ c k, Live m c k → c ≠ m.next := fun c k hc e => by have := hc.1; rw [e, hnew.1] at this; cases this
  have hsz : ∀ c, c ≠ m.next → sizeB (m.blks.set m.next (.map [])) c = sizeB m.blks c := fun c hc => by simp [sizeB, T.get_set, hc]
  have hself : ({ w with heap := w.heap.push (.map #[] 0) } : World).heap[w.heap.size]? = some (.map #[] 0) := by simp
  have hg : ∀ r es, (m.blks.set m.next (.map [])).get r = some (.map es) → (r = m.next ∧ es = []) ∨ (r ≠ m.next ∧ m.blks.get r = some (.map es)) := fun r es hr => by
    rw [T.get_set] at hr
    split at hr
    · cases hr; exact .inl ⟨by assumption, rfl⟩
    · exact .inr ⟨by assumption, hr⟩
  refine ⟨.map (some w.heap.size), σ.put m.next (w.heap.size, 0, 0), { w with heap := w.heap.push (.map #[] 0) }, rfl, .map (Sg.put_self _ _ _), ⟨hp.lt, fun c y hy => ?_, fun c k cb o tt hc hs => ?_, fun r es hr y hy => ?_, fun r r' es es' hn hr hr' y y' hy hy' => ?_, fun c k hc => ?_, fun f ch hf => ?_, fun c c' k1 k2 cb o o' tt tt' hn hk1 hk2 hs hs' => ?_, fun c hc => ?_, hp.gl, fun c y hy => ?_, Nat.le_succ_of_le h.nle⟩, ⟨hle, fun c y hy => ?_, rfl, rfl, rfl, by simp, fun cb hc _ => heap_push _ cb hc, fun c y hy => ?_, rfl⟩⟩
  · show c < m.next + 1
    rcases hcases c y hy with ⟨rfl, _⟩ | ⟨_, hy⟩
    · omega
    · have := h.dom c y hy; omega
  · have hc := (hlv c k).1 hc
    rw [Sg.put_ne _ _ (hne c k hc)] at hs
    exact (hp.bl c k cb o tt hc hs).mono hle rfl
  · rcases hg r es hr with ⟨rfl, rfl⟩ | ⟨hn, hr⟩
    · rw [Sg.put_self] at hy; cases hy
      exact ⟨rfl, h.lt, #[], 0, hself, rfl, fun i kv e hi => by simp at hi⟩
    · rw [Sg.put_ne _ _ hn] at hy
      obtain ⟨h1, h2, us, clk, h3, h4⟩ := hp.mp r es hr y hy
      exact ⟨h1, h2, us, clk, h3, h4.mono hle⟩
  · rcases hg r es hr with ⟨rfl, rfl⟩ | ⟨hn1, hr⟩
    · rw [Sg.put_self] at hy; cases hy
      rcases hg r' es' hr' with ⟨rfl, rfl⟩ | ⟨hn2, hr'⟩
      · exact absurd rfl hn
      · rw [Sg.put_ne _ _ hn2] at hy'
        have := h.rng r' y' hy'
        show w.heap.size ≠ _
        omega
    · rw [Sg.put_ne _ _ hn1] at hy
      rcases hg r' es' hr' with ⟨rfl, rfl⟩ | ⟨hn2, hr'⟩
      · rw [Sg.put_self] at hy'; cases hy'
        have := h.rng r y hy
        show _ ≠ w.heap.size
        omega
      · rw [Sg.put_ne _ _ hn2] at hy'
        exact h.mps r r' es es' hn hr hr' y y' hy hy'
  · obtain ⟨ch, h1, h2⟩ := h.fam c k ((hlv c k).1 hc)
    exact ⟨ch, h1, h2⟩
  · have hc := h.chain f ch hf
    refine ⟨hc.nodup, fun c hcc => ?_, hc.sorted.imp_of_mem fun {a b} ha hb hab => ?_⟩
    · obtain ⟨k, hk, hkf⟩ := hc.live c hcc
      exact ⟨k, (hlv c k).2 hk, hkf⟩
    · obtain ⟨ka, hka, _⟩ := hc.live _ ha
      obtain ⟨kb, hkb, _⟩ := hc.live _ hb
      show sizeB (m.blks.set m.next (.map [])) _ ≤ sizeB (m.blks.set m.next (.map [])) _
      rw [hsz _ (hne _ _ hka), hsz _ (hne _ _ hkb)]; exact hab
  · have hk1 := (hlv c k1).1 hk1
    have hk2 := (hlv c' k2).1 hk2
    rw [Sg.put_ne _ _ (hne c k1 hk1)] at hs
    rw [Sg.put_ne _ _ (hne c' k2 hk2)] at hs'
    exact h.sep c c' k1 k2 cb o o' tt tt' hn hk1 hk2 hs hs'
  · have hc' : m.next + 1 ≤ c := hc
    obtain ⟨h1, h2⟩ := h.new c (by omega)
    exact ⟨by simp only [T.get_set]; rw [if_neg (by omega)]; exact h1, h2⟩
  · rcases hcases c y hy with ⟨rfl, rfl⟩ | ⟨_, hy⟩
    · simp
    · exact hp.rng c y hy
  · rcases hcases c y hy with ⟨rfl, rfl⟩ | ⟨_, hy⟩
    · exact .inr (Nat.le_refl _)
    · exact .inl ⟨c, y, hy, rfl⟩
  · rcases hcases c y hy with ⟨rfl, rfl⟩ | ⟨_, hy⟩
    · exact .inr h.nle
    · exact .inl hy
end Go.Ev

namespace Go.Ev
open Go
set_option linter.unusedVariables false
set_option linter.unusedSimpArgs false
theorem bytesV_spec {σ : Sg} : ∀ {cs : List V} {ns : List Nat} {us : List Value}, bytesV cs = some ns → RelL σ cs us → us = ns.map (fun (n : Nat) => Value.int .u8 (n : Int)) ∧ ∀ n, n ∈ ns → n < 256 := by
  intro cs
  induction cs with
  | nil => intro ns us h hr; simp [bytesV] at h; subst h; exact ⟨hr.of_nil, fun n hn => by cases hn⟩
  | cons v cs ih =>
    intro ns us h hr
    obtain ⟨x, ys, rfl, hx, hs⟩ := hr.of_cons
    unfold bytesV at h
    split at h
    · rename_i e; cases e
    · rename_i n r e
      cases e
      split at h
      · rename_i ms hms
        simp only [bif_some, Nat.blt_eq, Option.some.injEq] at h
        obtain ⟨hlt, rfl⟩ := h
        obtain ⟨rfl, h2⟩ := ih hms hs
        cases hx
        refine ⟨rfl, fun k hk => ?_⟩
        rcases List.mem_cons.1 hk with rfl | hk
        · exact hlt
        · exact h2 k hk
      · cases h
    · cases h
def ofNats (ns : List Nat) : ByteArray := ⟨(ns.map fun n => UInt8.ofNat n).toArray⟩
theorem natsOf_ofNats (ns : List Nat) (h : ∀ n, n ∈ ns → n < 256) : natsOf (ofNats ns) = ns := by
  unfold natsOf ofNats
  simp only [List.map_map]
  conv => rhs; rw [← List.map_id ns]
  apply List.map_congr_left
  intro n hn
  have := h n hn
  simp only [Function.comp, id, UInt8.toNat_ofNat']
  omega
theorem Rel.ofNats (σ : Sg) {ns : List Nat} (h : ∀ n, n ∈ ns → n < 256) {l : Nat} (hl : l = ns.length) : Rel σ (.str l (packL ns)) (.string (ofNats ns)) := by
  refine Rel.str' ?_ ?_
  · rw [← natsOf_length, natsOf_ofNats ns h, hl]
  · rw [bytesOf_natsOf, natsOf_ofNats ns h]
theorem loadBytes_run {p : Program} {w : World} : ∀ (ns : List Nat) (a : Addr) (acc : ByteArray), (∀ n, n ∈ ns → n < 256) → (∀ j, j < ns.length → w.cell? (a.add j) = (ns[j]?).map fun (n : Nat) => Value.int .u8 (n : Int)) →
    (loadBytes a acc ns.length).run p w = .ok (acc ++ ofNats ns) w := by
  intro ns
  induction ns with
  | nil =>
    intro a acc _ _
    have : acc ++ ofNats [] = acc := by
      have : ofNats [] = ByteArray.empty := rfl
      rw [this, ByteArray.append_empty]
    rw [this]; rfl
  | cons n ns ih =>
    intro a acc hb hc
    have h0 : w.cell? a = some (.int .u8 (n : Int)) := by
      have := hc 0 (by simp)
      simpa [Addr.add] using this
    have h1 : (loadBytes a acc (ns.length + 1)).run p w = (loadBytes (a.add 1) (acc.push (UInt8.ofNat n)) ns.length).run p w := by
      simp only [loadBytes]
      rw [run_ok (show (load a).run p w = .ok (.int .u8 (n : Int)) w by simp only [load, Sem.run, h0])]
      rfl
    have hadd : ∀ (a : Addr) j, w.cell? (a.add (j + 1)) = w.cell? ((a.add 1).add j) := fun a j => by
      unfold Addr.add
      by_cases hj : j = 0
      · subst hj; simp
      · simp only [hj, if_false, Nat.add_eq_zero_iff, false_and, Nat.one_ne_zero]
        congr 2; omega
    show (loadBytes a acc (ns.length + 1)).run p w = _
    rw [h1, ih (a.add 1) _ (fun m hm => hb m (List.mem_cons_of_mem _ hm)) (fun j hj => by
      rw [← hadd, hc (j + 1) (by simpa using hj), List.getElem?_cons_succ])]
    congr 1
    apply ByteArray.ext
    simp [ofNats, ByteArray.data_append, ByteArray.push]
theorem run_bytesLoop {p : Program} {w : World} : ∀ (ns : List Nat) (acc : ByteArray), (∀ n, n ∈ ns → n < 256) →
    (forIn (ns.map fun (n : Nat) => Value.int .u8 (n : Int)) acc (fun c s => (match c with | .int .u8 n => pure (ForInStep.yield (s.push (UInt8.ofNat n.toNat))) | _ => (stuck "bytesToString: byte expected" : Sem (ForInStep ByteArray)))) : Sem ByteArray).run p w = .ok (acc ++ ofNats ns) w := by
  intro ns
  induction ns with
  | nil =>
    intro acc _
    have : acc ++ ofNats [] = acc := by
      have : ofNats [] = ByteArray.empty := rfl
      rw [this, ByteArray.append_empty]
    rw [this]; rfl
  | cons n ns ih =>
    intro acc hb
    rw [List.map_cons, List.forIn_cons, run_ok (run_pure _ _ _)]
    dsimp only
    rw [ih _ (fun m hm => hb m (List.mem_cons_of_mem _ hm))]
    congr 1
    apply ByteArray.ext
    simp [ofNats, ByteArray.data_append, ByteArray.push]
theorem convM_makes {base : Nat} {p : Program} {m m' : Mem} {σ : Sg} {w : World} (h : MR base m σ w) {s d : TypeId} {x v : V} {X : Value} (hX : Rel σ x X) (hv : convM p m s d x = some (v, m')) : Makes base p σ w (convert s d X) v m' := by
  unfold convM at hv
  split at hv
  · rename_i t b i h1 h2
    split at hv
    case h_2 => cases hv
    rename_i n c hsz hc
    cases hv
    cases hX with
    | @ptr _ cb o tt _ hs =>
    obtain ⟨y, hy, hR⟩ := cell_read h hs hc
    have hex : ∃ cs el fz, w.heap[cb]? = some (.cells cs el fz) ∧ o + i < cs.size := by
      simp only [World.cell?] at hy
      split at hy
      · rename_i cs el fz hh
        simp at hy
        exact ⟨cs, el, fz, hh, (Array.getElem?_eq_some_iff.1 hy).1⟩
      · cases hy
    obtain ⟨cs, el, fz, hh, hlt⟩ := hex
    refine .same h (x := .pointer (some ⟨cb, o + i, none⟩)) ?_ (.ptr _ hs)
    refine Eq.trans (run_ok (run_underlying h1 w)) ?_
    refine Eq.trans (run_ok (run_underlying h2 w)) ?_
    refine Eq.trans (run_ok (run_underlying h1 w)) ?_
    refine Eq.trans (run_ok (run_underlying h2 w)) ?_
    have hshape : (shape cb).run p w = .ok (some (el, cs.size)) w := by
      simp [shape, Sem.run, World.shape?, hh]
    have hview : (viewAt cb).run p w = .ok none w := by
      unfold viewAt
      rw [run_ok hshape]; rfl
    have hseen : (Conv.seenAt ⟨cb, o + i, none⟩).run p w = .ok ⟨cb, o + i, none⟩ w := by
      unfold Conv.seenAt
      rw [run_ok hview]; rfl
    refine Eq.trans (run_ok hseen) ?_
    have hcin : (cellsIn cb).run p w = .ok (some cs.size) w := by
      unfold cellsIn
      rw [run_ok hshape]; rfl
    refine Eq.trans (run_ok hcin) ?_
    refine Eq.trans (run_ok (sizeQ_run hsz w)) ?_
    refine Eq.trans (run_neg ?_) rfl
    simp
    omega
  · rename_i u b i h1 h2
    split at hv
    case h_2 => cases hv
    rename_i szu k hsz hk
    simp only [bif_some, Bool.and_eq_true, Bool.not_eq_true', Nat.blt_eq] at hv
    obtain ⟨⟨⟨⟨⟨hkl, hro⟩, htot⟩, hin⟩, hlies⟩, hv⟩ := hv
    cases hv
    cases hX with
    | @ptr _ cb o tt _ hs =>
    have htot' : k.tot ≠ 0 := by
      intro e; rw [e] at htot; simp at htot
    obtain ⟨hbase, cs, lo, hi, hh, htt, hto, hcsz, hfz⟩ := (h.bl b k cb o tt ⟨hk, hkl⟩ hs).own hro
    obtain ⟨rfl, hcs⟩ := hto htot'
    refine .same h (x := .pointer (some ⟨cb, 0 + i, none⟩)) ?_ (.ptr _ hs)
    refine Eq.trans (run_ok (run_underlying h1 w)) ?_
    refine Eq.trans (run_ok (run_underlying h2 w)) ?_
    refine Eq.trans (run_ok (run_underlying h1 w)) ?_
    refine Eq.trans (run_ok (run_underlying h2 w)) ?_
    have hshape : (shape cb).run p w = .ok (some (k.el, cs.size)) w := by
      simp [shape, Sem.run, World.shape?, hh]
    have hview : (viewAt cb).run p w = .ok none w := by
      unfold viewAt
      rw [run_ok hshape]; rfl
    have hseen : (Conv.seenAt ⟨cb, 0 + i, none⟩).run p w = .ok ⟨cb, 0 + i, none⟩ w := by
      unfold Conv.seenAt
      rw [run_ok hview]; rfl
    refine Eq.trans (run_ok hseen) ?_
    refine Eq.trans (run_ok (sizeQ_run hsz w)) ?_
    have hvar : (variablesAt ⟨cb, 0 + i, none⟩ u 1).run p w = .ok true w := by
      unfold variablesAt
      rw [run_stoodIn, run_ok hshape]
      dsimp only
      rw [hcs, Nat.zero_add, hlies]; rfl
    refine Eq.trans (run_ok hvar) ?_
    exact Eq.trans (run_pos (by simp)) rfl
  · rename_i e h1 h2
    split at hv
    case h_2 => cases hv
    rename_i h3
    cases hv
    cases hX
    refine .same h (x := .string .empty) ?_ (Rel.str' rfl rfl)
    refine Eq.trans (run_ok (run_underlying h1 w)) ?_
    refine Eq.trans (run_ok (run_underlying h2 w)) ?_
    refine Eq.trans (run_ok (run_underlying h3 w)) ?_
    rfl
  · rename_i e b off len cap sz h1 h2
    split at hv
    case h_2 => cases hv
    rename_i h3
    split at hv
    case h_2 => cases hv
    rename_i cs hcs
    split at hv
    case h_2 => cases hv
    rename_i ns hns
    cases hv
    cases hX with
    | @sl _ cb o tt _ _ _ _ a cap' hs hl hc ha ht =>
    obtain ⟨us, hR, hul, hcell, _⟩ := row_read (p := p) h hs hcs
    obtain ⟨rfl, hb⟩ := bytesV_spec hns hR
    have hlen : len = ns.length := by simpa using hul.symm
    refine .same h (x := .string (ofNats ns)) ?_ (Rel.ofNats σ hb hlen)
    refine Eq.trans (run_ok (run_underlying h1 w)) ?_
    refine Eq.trans (run_ok (run_underlying h2 w)) ?_
    refine Eq.trans (run_ok (run_underlying h3 w)) ?_
    have hload : (loadCells a len).run p w = .ok (ns.map fun (n : Nat) => Value.int .u8 (n : Int)).toArray w := by
      unfold loadCells
      by_cases h0 : len = 0
      · have : ns = [] := List.eq_nil_of_length_eq_zero (by omega)
        subst this; rw [h0]; rfl
      · have := loadCellsFrom_run (p := p) (w := w) (a := a) len 0 #[] (ns.map fun (n : Nat) => Value.int .u8 (n : Int)) (by simp [hlen]) (fun j hj => by
          rw [ha (by omega), add_mk, Nat.zero_add]
          exact hcell j hj)
        simpa using this
    show (Conv.bytesToString (.slice (some a) len cap')).run p w = _
    unfold Conv.bytesToString
    dsimp only
    refine Eq.trans (run_ok hload) ?_
    rw [forIn_array]
    refine Eq.trans (run_ok (a := ofNats ns) (w' := w) ?_) rfl
    have := run_bytesLoop (p := p) (w := w) ns ByteArray.empty hb
    rw [show ByteArray.empty ++ ofNats ns = ofNats ns from ByteArray.empty_append] at this
    refine Eq.trans ?_ this
    simp
  · cases hv
end Go.Ev

namespace Go.Ev
open Go
set_option linter.unusedVariables false
set_option linter.unusedSimpArgs false
theorem unsafeString_makes {base : Nat} {p : Program} {m m' : Mem} {σ : Sg} {w : World} (h : MR base m σ w) {ts : Array TypeId} {type pt u : TypeId} {b i n : Nat} {kk : IntKind} {A : Value} {k : CB} {cs : List V} {ns : List Nat}
    (hA : Rel σ (.ptr b i) A) (hk : m.blks.get b = some (.cells k)) (hone : p.cellsOf k.el = 1) (hts : ts[0]? = some pt) (hd : p.underlying pt = some (.pointer u)) (hsame : sameLayout p p.depth k.el u = true)
    (hrow : m.row b i (n + 1) = some cs) (hns : bytesV cs = some ns) (hfr : m.freezeB b (i + n + 1) = some m') (hbig : n + 1 ≤ 2 ^ 40) :
    Makes base p σ w (Builtin.unsafeString_ ts type #[A, .int kk (.ofNat (n + 1))]) (.str (n + 1) (packL ns)) m' := by
  obtain ⟨r, rfl⟩ := array_head hts
  cases hA with
  | @ptr _ cb o tt _ hs =>
  obtain ⟨us, hR, hul, hcell, _⟩ := row_read (p := p) h hs hrow
  obtain ⟨rfl, hb⟩ := bytesV_spec hns hR
  have hlen : ns.length = n + 1 := by simpa using hul
  obtain ⟨k', hk', hro, hin, _⟩ := freezeB_spec hfr
  have : k' = k := by have := hk'.1.symm.trans hk; simpa using this
  subst this
  obtain ⟨hbase, ds, lo, hi, hh, htt, _, hdsz, _⟩ := (h.bl b k' cb o tt hk' hs).own hro
  obtain ⟨hM, hT⟩ := h.freezeB (i := i) (n := n + 1) hs hfr (by omega)
  refine ⟨.string (ofNats ns), σ, _, ?_, Rel.ofNats σ hb hlen.symm, hM, hT⟩
  refine Eq.trans (run_ok (show (asInt (.int kk (.ofNat (n + 1)))).run p w = .ok (.ofNat (n + 1)) w from rfl)) ?_
  refine Eq.trans (run_neg (by simp only [Int.ofNat_eq_natCast]; omega)) ?_
  have hmax : IntKind.i64.max = 9223372036854775807 := by decide
  refine Eq.trans (run_neg (by rw [hmax]; simp only [Int.ofNat_eq_natCast]; omega)) ?_
  refine Eq.trans (run_neg (by simp only [Int.ofNat_eq_natCast]; omega)) ?_
  have hel : (elemOf pt).run p w = .ok u w := by
    unfold elemOf
    rw [run_ok (run_underlying hd w)]; rfl
  refine Eq.trans (run_ok hel) ?_
  have hvar : (variablesAt ⟨cb, o + i, none⟩ u (Int.ofNat (n + 1)).toNat).run p w = .ok true w := by
    unfold variablesAt
    have hshape : (shape cb).run p w = .ok (some (k'.el, ds.size)) w := by
      simp [shape, Sem.run, World.shape?, hh]
    rw [run_stoodIn, run_ok hshape]
    dsimp only
    have hrowAt : rowAt p (sameLayout p p.depth · u) p.depth k'.el (ds.size / p.cellsOf k'.el) (o + i) (Int.ofNat (n + 1)).toNat = true := by
      have hdep : ∃ q, p.depth = q + 1 := ⟨_, rfl⟩
      obtain ⟨q, hq⟩ := hdep
      have e0 : rowAt p (sameLayout p p.depth · u) (q + 1) k'.el (ds.size / p.cellsOf k'.el) (o + i) (n + 1) = true := by
        unfold rowAt
        simp only [hone, Nat.div_one, Nat.mod_one, hsame]
        rw [if_neg (by omega)]
        simp
        left; omega
      rw [← hq] at e0
      exact e0
    have hl : liesAt p p.depth k'.el (ds.size / p.cellsOf k'.el) (o + i) u (Int.ofNat (n + 1)).toNat = true := by
      have hdep : ∃ q, p.depth = q + 1 := ⟨_, rfl⟩
      obtain ⟨q, hq⟩ := hdep
      have e1 : ∀ q, p.depth = q + 1 → liesAt p (q + 1) k'.el (ds.size / p.cellsOf k'.el) (o + i) u (Int.ofNat (n + 1)).toNat = true := fun q hq => by
        unfold liesAt
        rw [hrowAt]; rfl
      have := e1 q hq
      rw [← hq] at this
      exact this
    rw [hl]; rfl
  refine Eq.trans (run_ok hvar) ?_
  refine Eq.trans (run_pos rfl) ?_
  have hload : (loadBytes ⟨cb, o + i, none⟩ .empty (Int.ofNat (n + 1)).toNat).run p w = .ok (ofNats ns) w := by
    have := loadBytes_run (p := p) (w := w) ns ⟨cb, o + i, none⟩ .empty hb (fun j hj => by
      rw [add_mk, hcell j (by omega), List.getElem?_map])
    rw [hlen, show ByteArray.empty ++ ofNats ns = ofNats ns from ByteArray.empty_append] at this
    exact this
  refine Eq.trans (run_ok hload) ?_
  rfl
theorem keyEq_now {σ : Sg} {p : Program} {t : TypeId} {d : TypeDesc} {k x : V} {K X : Value} {r : Bool} (hd : p.underlying t = some d) (hk : keyOk p t k = true) (hK : Rel σ k K) (hX : Rel σ x X) (h : keyEq k x = some r) : Instr.sameNow d K X = some r := by
  unfold keyOk at hk
  rw [hd] at hk
  unfold keyEq at h
  split at h
  · cases hK; cases hX
    simp only [bif_some, kindEq_iff, Option.some.injEq] at h
    obtain ⟨rfl, rfl⟩ := h
    cases d <;> simp at hk
    simp only [Instr.sameNow, if_true, intEq_eq]
  · cases hK; cases hX
    cases h
    cases d <;> simp at hk
    simp only [Instr.sameNow, strEq_beq]
  · cases hK; cases hX
    rename_i a b
    cases h
    cases d <;> simp at hk
    cases a <;> cases b <;> rfl
  · cases h
theorem checkKey_run {σ : Sg} {p : Program} {t : TypeId} {k : V} {K : Value} (hk : keyOk p t k = true) (hK : Rel σ k K) (e : Bool) (w : World) : (Instr.checkKey e 10000 t K).run p w = .ok () w := by
  show (Instr.checkKey e (9999 + 1) t K).run p w = _
  unfold keyOk at hk
  cases hd : p.underlying t with
  | none => rw [hd] at hk; simp at hk
  | some d =>
    rw [hd] at hk
    refine Eq.trans (run_ok (run_underlying hd w)) ?_
    split at hk
    · rename_i e1; cases e1; cases hK; rfl
    · rename_i e1; cases e1; cases hK; rfl
    · rename_i e1; cases e1; cases hK; rfl
    · cases hk
theorem findV_now {σ : Sg} {p : Program} {t : TypeId} {d : TypeDesc} {k : V} {K : Value} (hd : p.underlying t = some d) (hk : keyOk p t k = true) (hK : Rel σ k K) : ∀ (es : List (V × V)) (us : List MapEntry) (i : Nat) (r : Option V), EntR σ es us → findV k es = some r →
    match r with
    | some v => ∃ j x, Instr.findNow d K us i = some (some (j, x)) ∧ Rel σ v x
    | none => Instr.findNow d K us i = some none := by
  intro es
  induction es with
  | nil =>
    intro us i r hE h
    simp [findV] at h; subst h
    have : us = [] := List.eq_nil_of_length_eq_zero hE.1.symm
    subst this; rfl
  | cons e es ih =>
    intro us i r hE h
    obtain ⟨x, v⟩ := e
    cases us with
    | nil => have := hE.1; simp at this
    | cons u us =>
      obtain ⟨h1, h2⟩ := hE.2 0 (x, v) u rfl rfl
      have hE' : EntR σ es us := ⟨by have := hE.1; simpa using this, fun j a b ha hb => hE.2 (j + 1) a b (by simpa using ha) (by simpa using hb)⟩
      unfold findV at h
      split at h
      · rename_i hq
        cases h
        have := keyEq_now hd hk hK h1 hq
        exact ⟨i, u.val, by simp only [Instr.findNow, this], h2⟩
      · rename_i hq
        have hn := keyEq_now hd hk hK h1 hq
        have := ih us (i + 1) r hE' h
        simp only [Instr.findNow, hn]
        exact this
      · cases h
theorem findKey_run {σ : Sg} {p : Program} {w : World} {t : TypeId} {k : V} {K : Value} (hk : keyOk p t k = true) (hK : Rel σ k K) {es : List (V × V)} {us : List MapEntry} {r : Option V} (hE : EntR σ es us) (h : findV k es = some r) :
    match r with
    | some v => ∃ j x, (Instr.findKey t K us).run p w = .ok (some (j, x)) w ∧ Rel σ v x
    | none => (Instr.findKey t K us).run p w = .ok none w := by
  have hdk : ∃ d, p.underlying t = some d := by
    unfold keyOk at hk
    cases hq : p.underlying t with
    | none => rw [hq] at hk; simp at hk
    | some d => exact ⟨d, rfl⟩
  obtain ⟨d, hd⟩ := hdk
  have := findV_now hd hk hK es us 0 r hE h
  cases r with
  | some v =>
    obtain ⟨j, x, h1, h2⟩ := this
    refine ⟨j, x, ?_, h2⟩
    unfold Instr.findKey
    rw [run_ok (run_underlying hd w), h1]; rfl
  | none =>
    unfold Instr.findKey
    rw [run_ok (run_underlying hd w), this]; rfl
theorem lookup_run {base : Nat} {p : Program} {m : Mem} {σ : Sg} {w : World} (h : MR base m σ w) {t : TypeId} {x k v : V} {X K : Value} {ok : Bool} (hX : Rel σ x X) (hK : Rel σ k K) (hv : lookupV p m t x k ok = some v) : ∃ z, (Instr.lookup t X K ok).run p w = .ok z w ∧ Rel σ v z := by
  unfold lookupV at hv
  split at hv
  case h_2 => cases hv
  rename_i kt el hd
  simp only [bif_some] at hv
  obtain ⟨hk, hv⟩ := hv
  split at hv
  · cases hv
  rename_i es hes
  have fin : ∀ us : Array MapEntry, EntR σ es us.toList → ∃ r : Option (Nat × Value), (Instr.findKey kt K us.toList).run p w = .ok r w ∧ ∃ z : Value × Bool, (match r with | some (_, v) => pure (v, true) | none => (zeroValue el >>= fun z => pure (z, false)) : Sem (Value × Bool)).run p w = .ok z w ∧ Rel σ v (if ok then .tuple #[z.1, .bool z.2] else z.1) := fun us hE => by
    split at hv
    · rename_i u hu
      cases hv
      obtain ⟨j, y, h1, h2⟩ := findKey_run (w := w) hk hK hE hu
      refine ⟨_, h1, (y, true), rfl, ?_⟩
      cases ok
      · exact h2
      · exact Rel.tupL.2 (.cons h2 (.cons (.bool true) (.nil σ)))
    · rename_i hu
      split at hv
      · rename_i z hz
        cases hv
        obtain ⟨Z, hZ, hR, _⟩ := run_zero σ hz w
        have h1 := findKey_run (w := w) hk hK hE hu
        refine ⟨_, h1, (Z, false), by rw [run_ok hZ]; rfl, ?_⟩
        cases ok
        · exact hR
        · exact Rel.tupL.2 (.cons hR (.cons (.bool false) (.nil σ)))
      · cases hv
    · cases hv
  split at hes
  · cases hX; cases hes
    obtain ⟨r, h1, z, h2, h3⟩ := fin #[] ⟨rfl, fun i kv e hi => by simp at hi⟩
    refine ⟨_, ?_, h3⟩
    refine Eq.trans (run_ok (run_underlying hd w)) ?_
    refine Eq.trans (run_ok (run_pure _ _ _)) ?_
    refine Eq.trans (run_ok (checkKey_run hk hK _ w)) ?_
    refine Eq.trans (run_ok h1) ?_
    cases r with
    | none =>
      cases hq : (zeroValue el).run p w with
      | ok y w2 =>
        rw [run_ok hq] at h2
        refine Eq.trans (run_ok hq) ?_
        cases h2
        cases ok <;> rfl
      | halt hh w2 => rw [run_bind', hq] at h2; cases h2
    | some q => obtain ⟨j, y⟩ := q; cases h2; cases ok <;> rfl
  · rename_i r
    split at hes
    · rename_i es' hr
      cases hes
      cases hX with
      | @map _ cb hs =>
      obtain ⟨_, _, us, clk, hh, hE⟩ := h.mp r es hr _ hs
      obtain ⟨r', h1, z, h2, h3⟩ := fin us hE
      refine ⟨_, ?_, h3⟩
      refine Eq.trans (run_ok (run_underlying hd w)) ?_
      refine Eq.trans (run_ok (show (getObj cb).run p w = .ok (.map us clk) w by simp [getObj, Sem.run, hh])) ?_
      refine Eq.trans (run_ok (run_pure _ _ _)) ?_
      refine Eq.trans (run_ok (checkKey_run hk hK _ w)) ?_
      refine Eq.trans (run_ok h1) ?_
      cases r' with
      | none =>
        cases hq : (zeroValue el).run p w with
        | ok y w2 =>
          rw [run_ok hq] at h2
          refine Eq.trans (run_ok hq) ?_
          cases h2
          cases ok <;> rfl
        | halt hh w2 => rw [run_bind', hq] at h2; cases h2
      | some q => obtain ⟨j, y⟩ := q; cases h2; cases ok <;> rfl
    · cases hes
  · cases hes
theorem putV_spec {σ : Sg} {k v : V} {V' : Value} (hV : Rel σ v V') : ∀ {es es' : List (V × V)} {us : List MapEntry}, EntR σ es us → putV k v es = some es' →
    (∃ (i : Nat) (x : V) (u : MapEntry), findV k es = some (some x) ∧ us[i]? = some u ∧ (∃ kx, es[i]? = some (kx, x) ∧ keyEq k kx = some true) ∧ (∀ j kv, j < i → es[j]? = some kv → keyEq k kv.1 = some false) ∧ ∀ K', (∀ kx, es[i]? = some kx → Rel σ kx.1 K') → EntR σ es' (us.modify i fun e => { e with key := K', val := V' })) ∨
    (findV k es = some none ∧ es' = es ++ [(k, v)]) := by
  intro es
  induction es with
  | nil =>
    intro es' us hE h
    simp [putV] at h; subst h
    exact .inr ⟨rfl, rfl⟩
  | cons e es ih =>
    intro es' us hE h
    obtain ⟨x, u⟩ := e
    unfold putV at h
    cases us with
    | nil => have := hE.1; simp at this
    | cons y ys =>
      obtain ⟨h1, h2⟩ := hE.2 0 (x, u) y rfl rfl
      have hE' : EntR σ es ys := ⟨by have := hE.1; simpa using this, fun j a b ha hb => hE.2 (j + 1) a b (by simpa using ha) (by simpa using hb)⟩
      split at h
      · rename_i hq
        cases h
        refine .inl ⟨0, u, y, by simp [findV, hq], rfl, ⟨x, rfl, hq⟩, fun j kv hj => absurd hj (by omega), fun K' hK' => ⟨?_, fun j a b ha hb => ?_⟩⟩
        · have := hE.1; simpa using this
        · cases j with
          | zero =>
            simp at ha hb
            subst ha hb
            exact ⟨hK' (x, u) rfl, hV⟩
          | succ j => simp at ha hb; exact hE'.2 j a b ha hb
      · rename_i hq
        simp only [Option.map_eq_some_iff] at h
        obtain ⟨es2, h3, rfl⟩ := h
        rcases ih hE' h3 with ⟨i, x', u', g1, g2, g3, g4, g5⟩ | ⟨g1, rfl⟩
        · refine .inl ⟨i + 1, x', u', by simp only [findV, hq]; exact g1, by simpa using g2, by simpa using g3, fun j kv hj hkv => ?_, fun K' hK' => ?_⟩
          · cases j with
            | zero => simp at hkv; subst hkv; exact hq
            | succ j => exact g4 j kv (by omega) (by simpa using hkv)
          · have := g5 K' (fun kx hkx => hK' kx (by simpa using hkx))
            refine ⟨by have := this.1; simpa using this, fun j a b ha hb => ?_⟩
            cases j with
            | zero => simp at ha hb; subst ha hb; exact ⟨h1, h2⟩
            | succ j => simp at ha hb; exact this.2 j a b ha hb
        · exact .inr ⟨by simp only [findV, hq]; exact g1, rfl⟩
      · cases h
theorem keyEq_same {k x : V} (h : keyEq k x = some true) : x = k := by
  unfold keyEq at h
  split at h
  · simp only [bif_some, kindEq_iff, Option.some.injEq, intEq_iff] at h
    obtain ⟨rfl, rfl⟩ := h; rfl
  · simp only [Option.some.injEq, strEq, Bool.and_eq_true, Nat.beq_eq] at h
    obtain ⟨rfl, rfl⟩ := h; rfl
  · rename_i a b
    cases a <;> cases b <;> simp at h <;> rfl
  · cases h
theorem MR.mapSet {base : Nat} {m : Mem} {σ : Sg} {w : World} (h : MR base m σ w) {r cb : Nat} {es es' : List (V × V)} (hr : m.blks.get r = some (.map es)) (hs : σ r = some (cb, 0, 0)) (us : Array MapEntry) (clk : Nat) (hE : EntR σ es' us.toList) :
    MR base { m with blks := m.blks.set r (.map es') } σ { w with heap := w.heap.setIfInBounds cb (.map us clk) } ∧ Tr base σ w σ { w with heap := w.heap.setIfInBounds cb (.map us clk) } := by
  obtain ⟨_, hbase, us0, clk0, hh0, _⟩ := h.mp r es hr _ hs
  have hrng := h.rng r _ hs
  have hother : ∀ c, c ≠ cb → ({ w with heap := w.heap.setIfInBounds cb (.map us clk) } : World).heap[c]? = w.heap[c]? := fun c hc => by
    show (w.heap.setIfInBounds cb _)[c]? = _
    rw [Array.getElem?_setIfInBounds_ne (fun e => hc e.symm)]
  have hself : ({ w with heap := w.heap.setIfInBounds cb (.map us clk) } : World).heap[cb]? = some (.map us clk) := by
    show (w.heap.setIfInBounds cb _)[cb]? = _
    rw [Array.getElem?_setIfInBounds_self_of_lt hrng]
  have hlv : ∀ c k, Live { m with blks := m.blks.set r (.map es') } c k ↔ Live m c k := fun c k => by
    unfold Live
    simp only [T.get_set]
    by_cases e : c = r
    · subst e; simp [hr]
    · simp [e]
  have hne : ∀ c k, Live m c k → c ≠ r := fun c k hc e => by have := hc.1; rw [e, hr] at this; cases this
  have hcb : ∀ c k cb2 o tt, Live m c k → σ c = some (cb2, o, tt) → k.ro = false → cb2 ≠ cb := fun c k cb2 o tt hc hs2 hro e => by
    obtain ⟨_, ds, _, _, g, _⟩ := (h.bl c k cb2 o tt hc hs2).own hro
    rw [e, hh0] at g; cases g
  have hcell : ∀ a : Addr, ({ w with heap := w.heap.setIfInBounds cb (.map us clk) } : World).cell? a = w.cell? a := fun a => by
    by_cases e : a.block = cb
    · simp only [World.cell?]; rw [e, hself, hh0]
    · exact cell_heap (hother _ e)
  have hsz : ∀ c, c ≠ r → sizeB (m.blks.set r (.map es')) c = sizeB m.blks c := fun c hc => by simp [sizeB, T.get_set, hc]
  have hg : ∀ c es2, (m.blks.set r (.map es')).get c = some (.map es2) → (c = r ∧ es2 = es') ∨ (c ≠ r ∧ m.blks.get c = some (.map es2)) := fun c es2 hc => by
    rw [T.get_set] at hc
    split at hc
    · cases hc; exact .inl ⟨by assumption, rfl⟩
    · exact .inr ⟨by assumption, hc⟩
  refine ⟨⟨by have := h.lt; simpa using this, h.dom, fun c k cb2 o tt hc hs2 => ?_, fun c es2 hc x hx => ?_, fun c c' e1 e2 hn hc hc' x x' hx hx' => ?_, fun c k hc => ?_, fun f ch hf => ?_, fun c c' k1 k2 cb2 o o' tt tt' hn hk1 hk2 hs1 hs2 => ?_, fun c hc => ?_, fun g i v hv => ?_, fun c x hx => by have := h.rng c x hx; simpa using this, h.nle⟩, ⟨σ.le_refl, fun b x h => .inl ⟨b, x, h, rfl⟩, rfl, rfl, rfl, by simp, fun c hc hcond => hother c ?_, fun _ _ h => .inl h, rfl⟩⟩
  · have hc := (hlv c k).1 hc
    have hold := h.bl c k cb2 o tt hc hs2
    refine ⟨fun i v hi hv => ?_, fun hro => ?_⟩
    · rw [hcell]; exact hold.cell i v hi hv
    · obtain ⟨g1, ds, lo, hi, g2, g3⟩ := hold.own hro
      exact ⟨g1, ds, lo, hi, (hother cb2 (hcb c k cb2 o tt hc hs2 hro)).trans g2, g3⟩
  · rcases hg c es2 hc with ⟨rfl, rfl⟩ | ⟨hn, hc⟩
    · rw [hs] at hx; cases hx
      exact ⟨rfl, hbase, us, clk, hself, hE⟩
    · obtain ⟨g1, g2, us2, clk2, g3, g4⟩ := h.mp c es2 hc x hx
      exact ⟨g1, g2, us2, clk2, (hother x.1 (h.mps c r es2 es hn hc hr x _ hx hs)).trans g3, g4⟩
  · rcases hg c e1 hc with ⟨rfl, rfl⟩ | ⟨_, hc2⟩
    · rcases hg c' e2 hc' with ⟨rfl, rfl⟩ | ⟨_, hc'⟩
      · exact absurd rfl hn
      · exact h.mps c c' es e2 hn hr hc' x x' hx hx'
    · rcases hg c' e2 hc' with ⟨rfl, rfl⟩ | ⟨_, hc2'⟩
      · exact h.mps c c' e1 es hn hc2 hr x x' hx hx'
      · exact h.mps c c' e1 e2 hn hc2 hc2' x x' hx hx'
  · obtain ⟨ch, h1, h2⟩ := h.fam c k ((hlv c k).1 hc)
    exact ⟨ch, h1, h2⟩
  · have hc := h.chain f ch hf
    refine ⟨hc.nodup, fun c hcc => ?_, hc.sorted.imp_of_mem fun {a b} ha hb hab => ?_⟩
    · obtain ⟨k, hk, hkf⟩ := hc.live c hcc
      exact ⟨k, (hlv c k).2 hk, hkf⟩
    · obtain ⟨ka, hka, _⟩ := hc.live _ ha
      obtain ⟨kb, hkb, _⟩ := hc.live _ hb
      show sizeB (m.blks.set r (.map es')) _ ≤ sizeB (m.blks.set r (.map es')) _
      rw [hsz _ (hne _ _ hka), hsz _ (hne _ _ hkb)]; exact hab
  · exact h.sep c c' k1 k2 cb2 o o' tt tt' hn ((hlv c k1).1 hk1) ((hlv c' k2).1 hk2) hs1 hs2
  · obtain ⟨h1, h2⟩ := h.new c hc
    refine ⟨?_, h2⟩
    simp only [T.get_set]
    rw [if_neg (by rintro rfl; rw [hr] at h1; cases h1)]
    exact h1
  · obtain ⟨h1, x, h2, h3⟩ := h.gl g i v hv
    exact ⟨h1, x, by rw [hcell]; exact h2, h3⟩
  · rintro rfl
    rcases hcond with hb | hn
    · have : base ≤ c := hbase
      omega
    · exact hn r _ hs rfl
theorem Rel.str_inv {σ : Sg} {n b : Nat} {X : Value} (h : Rel σ (.str n b) X) : ∃ s, X = .string s ∧ n = s.size ∧ b = bytesOf s := by
  cases h with | str s => exact ⟨s, rfl, rfl, rfl⟩
theorem key_stays {σ : Sg} {p : Program} {t : TypeId} {k : V} {A B : Value} (hk : keyOk p t k = true) (hA : Rel σ k A) (hB : Rel σ k B) (w : World) : (Instr.keyThatStays A B).run p w = .ok B w := by
  have hs : Instr.sameBits 10000 A B = true := by
    show Instr.sameBits (9999 + 1) A B = true
    unfold keyOk at hk
    split at hk
    · cases hA; cases hB; simp [Instr.sameBits]
    · obtain ⟨s, rfl, h1, h2⟩ := hA.str_inv
      obtain ⟨s', rfl, h3, h4⟩ := hB.str_inv
      have := strEq_beq s s'
      have e : strEq s.size (bytesOf s) s'.size (bytesOf s') = true := by
        unfold strEq; rw [Bool.and_eq_true, Nat.beq_eq, Nat.beq_eq]; omega
      rw [e] at this
      simp only [Instr.sameBits]
      exact this.symm
    · cases hA; cases hB; simp [Instr.sameBits]
    · cases hk
  unfold Instr.keyThatStays
  rw [if_pos hs]; rfl
theorem findNow_at {σ : Sg} {p : Program} {t : TypeId} {d : TypeDesc} {k : V} {K : Value} (hd : p.underlying t = some d) (hk : keyOk p t k = true) (hK : Rel σ k K) : ∀ (i : Nat) (es : List (V × V)) (us : List MapEntry) (s : Nat) (kx x : V) (u : MapEntry), EntR σ es us → es[i]? = some (kx, x) → keyEq k kx = some true → (∀ j kv, j < i → es[j]? = some kv → keyEq k kv.1 = some false) → us[i]? = some u →
    Instr.findNow d K us s = some (some (s + i, u.val)) := by
  intro i
  induction i with
  | zero =>
    intro es us s kx x u hE h1 h2 h3 h4
    cases es with
    | nil => simp at h1
    | cons e es => cases us with
      | nil => simp at h4
      | cons y ys =>
        simp at h1 h4
        subst h1 h4
        have := keyEq_now hd hk hK (hE.2 0 (kx, x) y rfl rfl).1 h2
        simp only [Instr.findNow, this, Nat.add_zero]
  | succ i ih =>
    intro es us s kx x u hE h1 h2 h3 h4
    cases es with
    | nil => simp at h1
    | cons e es => cases us with
      | nil => simp at h4
      | cons y ys =>
        have hq := h3 0 e (by omega) rfl
        have := keyEq_now hd hk hK (hE.2 0 e y rfl rfl).1 hq
        simp only [Instr.findNow, this]
        rw [ih es ys (s + 1) kx x u ⟨by have := hE.1; simpa using this, fun j a b ha hb => hE.2 (j + 1) a b (by simpa using ha) (by simpa using hb)⟩ (by simpa using h1) h2 (fun j kv hj hkv => h3 (j + 1) kv (by omega) (by simpa using hkv)) (by simpa using h4)]
        congr 3; omega
theorem mapUpdate_run {base : Nat} {p : Program} {m m' : Mem} {σ : Sg} {w : World} (h : MR base m σ w) {t : TypeId} {r : Nat} {k v : V} {X K V' : Value} (hX : Rel σ (.map r) X) (hK : Rel σ k K) (hV : Rel σ v V') (hv : mapSetV p m t r k v = some m') :
    ∃ w', (Instr.mapUpdate t X K V').run p w = .ok () w' ∧ MR base m' σ w' ∧ Tr base σ w σ w' := by
  unfold mapSetV at hv
  split at hv
  case h_2 => cases hv
  rename_i kt el es hd hr
  simp only [bif_some] at hv
  obtain ⟨hk, hv⟩ := hv
  split at hv
  case h_2 => cases hv
  rename_i es' hp
  cases hv
  cases hX with
  | @map _ cb hs =>
  obtain ⟨_, hbase, us, clk, hh, hE⟩ := h.mp r es hr _ hs
  have hget : (getObj cb).run p w = .ok (.map us clk) w := by simp [getObj, Sem.run, hh]
  have hset : ∀ us2 c2, (setObj cb (.map us2 c2)).run p w = .ok () { w with heap := w.heap.setIfInBounds cb (.map us2 c2) } := fun us2 c2 => by simp [setObj, Sem.run, hh]
  rcases putV_spec hV hE hp with ⟨i, x, u, g1, g2, ⟨kx, g3, g6⟩, g4, g5⟩ | ⟨g1, rfl⟩
  · have hkx := keyEq_same g6
    subst hkx
    have hE2 := g5 K (fun y hy => by rw [g3] at hy; cases hy; exact hK)
    have hfound : ∃ y, (Instr.findKey kt K us.toList).run p w = .ok (some (i, y)) w := by
      have hdk : ∃ d, p.underlying kt = some d := by
        unfold keyOk at hk
        cases hq : p.underlying kt with
        | none => rw [hq] at hk; simp at hk
        | some d => exact ⟨d, rfl⟩
      obtain ⟨d, hdk⟩ := hdk
      have := findNow_at hdk hk hK i es us.toList 0 kx x u hE g3 g6 g4 g2
      refine ⟨u.val, ?_⟩
      unfold Instr.findKey
      rw [run_ok (run_underlying hdk w), this, Nat.zero_add]; rfl
    obtain ⟨y, hy⟩ := hfound
    rw [Array.getElem?_toList] at g2
    have hstay : (Instr.keyThatStays (((us[i]?).map (·.key)).getD K) K).run p w = .ok K w := by
      rw [g2]
      exact key_stays hk ((hE.2 i (kx, x) u g3 (by rw [Array.getElem?_toList]; exact g2)).1) hK w
    obtain ⟨hM, hT⟩ := h.mapSet (es' := es') hr hs (us.modify i fun e => { e with key := K, val := V' }) clk (by rw [Array.toList_modify]; exact hE2)
    refine ⟨_, ?_, hM, hT⟩
    refine Eq.trans (run_ok (run_underlying hd w)) ?_
    refine Eq.trans (run_ok hget) ?_
    refine Eq.trans (run_ok (checkKey_run hk hK _ w)) ?_
    refine Eq.trans (run_ok hy) ?_
    refine Eq.trans (run_ok hstay) ?_
    exact hset _ _
  · have hno := findKey_run (w := w) hk hK hE g1
    obtain ⟨hM, hT⟩ := h.mapSet (es' := es ++ [(k, v)]) hr hs (us.push { key := K, val := V', born := clk }) (clk + 1) (by
      rw [Array.toList_push]
      refine ⟨by simp [hE.1], fun i kv e h1 h2 => ?_⟩
      by_cases hi : i < es.length
      · rw [List.getElem?_append_left hi] at h1
        rw [List.getElem?_append_left (by rw [← hE.1]; exact hi)] at h2
        exact hE.2 i kv e h1 h2
      · rw [List.getElem?_append_right (by omega)] at h1
        rw [List.getElem?_append_right (by rw [← hE.1]; omega)] at h2
        rw [hE.1] at h1
        cases hj : i - us.toList.length with
        | zero => rw [hj] at h1 h2; simp at h1 h2; subst h1 h2; exact ⟨hK, hV⟩
        | succ j => rw [hj] at h1; simp at h1)
    refine ⟨_, ?_, hM, hT⟩
    refine Eq.trans (run_ok (run_underlying hd w)) ?_
    refine Eq.trans (run_ok hget) ?_
    refine Eq.trans (run_ok (checkKey_run hk hK _ w)) ?_
    refine Eq.trans (run_ok hno) ?_
    exact hset _ _
end Go.Ev

namespace Go.Ev
open Go
set_option linter.unusedVariables false
set_option linter.unusedSimpArgs false
theorem sliceA_run {base : Nat} {p : Program} {m : Mem} {σ : Sg} {w : World} (h : MR base m σ w) {t : TypeId} {x v : V} {X : Value} {lo hi : Option V} {lo' hi' : Option Value} (hx : Rel σ x X) (rl : OptR σ lo lo') (rh : OptR σ hi hi') (hv : sliceA p m t x lo hi = some v) :
    ∃ z, (Instr.sliceAt t X lo' hi' none).run p w = .ok z w ∧ Rel σ v z := by
  unfold sliceA at hv
  split at hv
  case h_2 => cases hv
  rename_i n e b off hd
  split at hv
  case h_2 => cases hv
  rename_i l hh k s hl1 hh1 hk hsz
  simp only [bif_some, Bool.and_eq_true, Nat.ble_eq, Bool.not_eq_true', Option.some.injEq] at hv
  obtain ⟨⟨⟨⟨⟨h1, h2⟩, hkl⟩, hro⟩, hn⟩, rfl⟩ := hv
  cases hx with
  | @ptr _ cb o tt _ hs =>
  obtain ⟨_, cs, _, _, _, htt, _, hcsz, _⟩ := (h.bl b k cb o tt ⟨hk, hkl⟩ hs).own hro
  refine ⟨.slice (some (if n = l then ⟨cb, o + off, none⟩ else (⟨cb, o + off, none⟩ : Addr).add (l * s))) (hh - l) (n - l), ?_, ?_⟩
  · refine Eq.trans (run_ok (run_underlying hd w)) ?_
    refine Eq.trans (run_ok (show (Instr.sureAddr (.pointer (some ⟨cb, o + off, none⟩))).run p w = .ok ⟨cb, o + off, none⟩ w from rfl)) ?_
    refine Eq.trans (run_ok (sliceBounds_run hl1 hh1 rl rh h1 h2 w)) ?_
    exact run_ok (sizeQ_run hsz w)
  · have hm : l * s ≤ n * s := Nat.mul_le_mul_right _ (by omega)
    refine .sl _ _ _ _ _ _ hs (by omega) (Nat.le_refl _) (fun hp => ?_) (by rw [Nat.sub_mul]; omega)
    rw [if_neg (by omega), add_mk, Nat.add_assoc]
def XBok (p : Program) (xb : XB) : Prop := ∀ (f : FuncId) (fn : Func) (args : List V) (m : Mem) (v : V) (m' : Mem), p.funcs[f]? = some fn → fn.body = none → xb f args m = some (v, m') →
  ∀ (base : Nat) (σ : Sg) (w : World) (us : Array Value), MR base m σ w → RelL σ args us.toList → ∃ x σ' w', (callFunc f us).run p w = .ok (.value x) w' ∧ Rel σ' v x ∧ MR base m' σ' w' ∧ Tr base σ w σ' w'
theorem extern_does {base : Nat} {p : Program} {xb : XB} (hxb : XBok p xb) {m : Mem} {σ : Sg} {w : World} (h : MR base m σ w) {f : FuncId} {args : List V} {us : Array Value} (hr : RelL σ args us.toList) (hno : ∀ fn, p.funcs[f]? = some fn → fn.body.isSome → fn.name ≠ "runtime.NumGoroutine") : Does base p σ w (callFunc f us) (externV p xb m f args) := by
  unfold externV
  cases hf : p.funcs[f]? with
  | none => trivial
  | some fn =>
    dsimp only
    cases hb : fn.body with
    | none =>
      dsimp only
      cases hx : xb f args m with
      | none => trivial
      | some q =>
        obtain ⟨v, m'⟩ := q
        exact hxb f fn args m v m' hf hb hx base σ w us h hr
    | some c =>
      dsimp only
      refine ⟨us, w, ?_, hr, h, Tr.refl _ _ _⟩
      unfold callFunc
      rw [run_stoodIn, hf]
      dsimp only
      rw [if_neg (by simpa using hno fn hf (by simp [hb])), if_neg (by simp [hb])]
      rfl
def PlR (σ : Sg) : V ⊕ (Nat × Nat) → Place → Prop
  | .inl v, .val x => Rel σ v x
  | .inr (b, i), .var a => ∃ cb o tt, σ b = some (cb, o, tt) ∧ a = ⟨cb, o + i, none⟩
  | _, _ => False
theorem getX_run {base : Nat} {p : Program} {m : Mem} {σ : Sg} {w : World} (h : MR base m σ w) {t : TypeId} {x : V ⊕ (Nat × Nat)} {pl : Place} {v : V} (hx : PlR σ x pl) (hv : getX p m t x = some v) : ∃ y, (pl.get t).run p w = .ok y w ∧ Rel σ v y := by
  cases x with
  | inl u => cases pl with
    | val y => simp only [getX, Option.some.injEq] at hv; subst hv; exact ⟨y, rfl, hx⟩
    | var a => exact absurd hx (by simp [PlR])
  | inr q =>
    obtain ⟨b, i⟩ := q
    cases pl with
    | val y => exact absurd hx (by simp [PlR])
    | var a =>
      obtain ⟨cb, o, tt, hs, rfl⟩ := hx
      obtain ⟨y, hy, hR⟩ := loadVar_run (p := p) h (Rel.ptr i hs) (show loadV p m t (.ptr b i) = some v from hv)
      exact ⟨y, hy, hR⟩
theorem follow_run {base : Nat} {p : Program} {m : Mem} {σ : Sg} {w : World} (h : MR base m σ w) : ∀ (path : List FieldStep) (t : TypeId) (x : V ⊕ (Nat × Nat)) (pl : Place) (xt : TypeId) (y : V ⊕ (Nat × Nat)), PlR σ x pl → followV p m path t x = some (xt, y) →
    ∃ pl', (follow path t pl).run p w = .ok (xt, pl') w ∧ PlR σ y pl' := by
  intro path
  induction path with
  | nil => intro t x pl xt y hx hv; simp [followV] at hv; obtain ⟨rfl, rfl⟩ := hv; exact ⟨pl, rfl, hx⟩
  | cons s path ih =>
    intro t x pl xt y hx hv
    unfold followV at hv
    split at hv
    case h_2 => cases hv
    rename_i fs hd
    split at hv
    · cases hv
    rename_i f hf
    have hplace : ∀ (cb x : Nat), (∃ sz, sizeQ p f.type = some (sz + 1)) → (fieldPlace ⟨cb, x, none⟩ f).run p w = .ok ⟨cb, x + f.offset, none⟩ w := fun cb x ⟨sz, hsz⟩ => by
      unfold fieldPlace
      rw [run_ok (sizeQ_run hsz w), if_neg (by omega), add_mk]; rfl
    cases hsz : sizeQ p f.type with
    | none => rw [hsz] at hv; simp at hv
    | some sz =>
      cases sz with
      | zero => rw [hsz] at hv; simp at hv
      | succ sz =>
        rw [hsz] at hv
        dsimp only at hv
        cases hdr : s.deref with
        | true =>
          rw [hdr] at hv
          simp only [cond_true] at hv
          split at hv
          case h_2 => cases hv
          rename_i b i hg
          obtain ⟨z, hz, hR⟩ := getX_run h hx (t := t) hg
          cases hR with
          | @ptr _ cb o tt _ hs =>
          obtain ⟨pl', h1, h2⟩ := ih f.type (.inr (b, i + f.offset)) (.var ⟨cb, o + i + f.offset, none⟩) xt y ⟨cb, o, tt, hs, by rw [Nat.add_assoc]⟩ hv
          refine ⟨pl', ?_, h2⟩
          refine Eq.trans (run_ok (run_underlying hd w)) ?_
          dsimp only
          rw [hf]
          dsimp only
          rw [hdr]
          refine Eq.trans (run_pos rfl) ?_
          refine Eq.trans (run_ok hz) ?_
          refine Eq.trans (run_ok (show (asAddr (.pointer (some ⟨cb, o + i, none⟩))).run p w = .ok ⟨cb, o + i, none⟩ w from rfl)) ?_
          refine Eq.trans (run_ok (hplace cb (o + i) ⟨sz, hsz⟩)) ?_
          exact h1
        | false =>
          rw [hdr] at hv
          simp only [cond_false] at hv
          split at hv
          · rename_i b i
            cases pl with
            | val z => exact absurd hx (by simp [PlR])
            | var a =>
              obtain ⟨cb, o, tt, hs, rfl⟩ := hx
              obtain ⟨pl', h1, h2⟩ := ih f.type (.inr (b, i + f.offset)) (.var ⟨cb, o + i + f.offset, none⟩) xt y ⟨cb, o, tt, hs, by rw [Nat.add_assoc]⟩ hv
              refine ⟨pl', ?_, h2⟩
              refine Eq.trans (run_ok (run_underlying hd w)) ?_
              dsimp only
              rw [hf]
              dsimp only
              rw [hdr]
              refine Eq.trans (run_neg (by simp)) ?_
              refine Eq.trans (run_ok (hplace cb (o + i) ⟨sz, hsz⟩)) ?_
              exact h1
          · rename_i cs
            cases pl with
            | var a => exact absurd hx (by simp [PlR])
            | val z =>
              split at hv
              · rename_i u hu
                have hx' : Rel σ (.agg cs) z := hx
                cases hx' with
                | agg _ us g1 g2 =>
                obtain ⟨q, hq, hR⟩ := run_part (relL_arr.2 ⟨g1, g2⟩) hu w
                obtain ⟨pl', h1, h2⟩ := ih f.type (.inl u) (.val q) xt y hR hv
                refine ⟨pl', ?_, h2⟩
                refine Eq.trans (run_ok (run_underlying hd w)) ?_
                dsimp only
                rw [hf]
                dsimp only
                rw [hdr]
                refine Eq.trans (run_neg (by simp)) ?_
                refine Eq.trans (run_ok hq) ?_
                exact h1
              · cases hv
          · cases hv
theorem receiver_run {base : Nat} {p : Program} {m : Mem} {σ : Sg} {w : World} (h : MR base m σ w) {xt : TypeId} {x : V ⊕ (Nat × Nat)} {pl : Place} {pr : Bool} {r : V} (wr : Option String) (hx : PlR σ x pl) (hv : receiverV p m xt x pr = some r) :
    ∃ y, (receiverAt xt pl pr wr).run p w = .ok y w ∧ Rel σ r y := by
  unfold receiverV at hv
  split at hv
  · rename_i e hd
    obtain ⟨y, h1, h2⟩ := getX_run h hx hv
    refine ⟨y, ?_, h2⟩
    refine Eq.trans (run_ok (run_underlying hd w)) ?_
    exact h1
  · rename_i e hd
    split at hv
    case h_2 => cases hv
    rename_i b i ha
    obtain ⟨y, h1, h2⟩ := getX_run h hx ha
    have h2' := h2
    cases h2 with
    | @ptr _ cb o tt _ hs =>
    obtain ⟨z, h3, h4⟩ := loadVar_run (p := p) h h2' hv
    refine ⟨z, ?_, h4⟩
    refine Eq.trans (run_ok (run_underlying hd w)) ?_
    refine Eq.trans (run_ok h1) ?_
    cases wr with
    | none => exact h3
    | some name => exact h3
  · rename_i d b i hn hd
    cases hv
    cases pl with
    | val z => exact absurd hx (by simp [PlR])
    | var a =>
      obtain ⟨cb, o, tt, hs, rfl⟩ := hx
      refine ⟨.pointer (some ⟨cb, o + i, none⟩), ?_, .ptr _ hs⟩
      refine Eq.trans (run_ok (run_underlying hd w)) ?_
      cases d <;> first | rfl | exact (hn _ rfl).elim
  · cases hv
  · rename_i d hn hd
    obtain ⟨y, h1, h2⟩ := getX_run h hx hv
    refine ⟨y, ?_, h2⟩
    refine Eq.trans (run_ok (run_underlying hd w)) ?_
    cases d <;> first | exact h1 | exact (hn _ rfl).elim
  · cases hv
theorem method_run {base : Nat} {p : Program} {m : Mem} {σ : Sg} {w : World} (h : MR base m σ w) {t : TypeId} {v r : V} {X : Value} {name : String} {f : FuncId} (hX : Rel σ v X) (hv : methodV p m t v name = some (f, r)) (n : Nat) :
    ∃ y, (method (n + 1) t X name).run p w = .ok (f, y) w ∧ Rel σ r y := by
  unfold methodV at hv
  split at hv
  · cases hv
  rename_i i hi
  split at hv
  · cases hv
  rename_i mt hm
  split at hv
  · cases hv
  rename_i xt x hf
  split at hv
  · cases hv
  rename_i f' pr hfn
  simp only [Option.map_eq_some_iff, Prod.mk.injEq] at hv
  obtain ⟨r', hr, rfl, rfl⟩ := hv
  obtain ⟨pl, h1, h2⟩ := follow_run h mt.path.toList t (.inl v) (.val X) xt x hX hf
  obtain ⟨y, h3, h4⟩ := receiver_run h (if mt.path.isEmpty then some ((name.splitOn ".").getLastD name) else none) h2 hr
  refine ⟨y, ?_, h4⟩
  unfold method
  refine Eq.trans (run_ok (run_typeInfo hi w)) ?_
  rw [show i.methods.find? (fun x => x.name == name) = some mt by rw [← Array.find?_toList]; exact hm]
  dsimp only
  refine Eq.trans (run_ok h1) ?_
  dsimp only
  rw [hfn]
  refine Eq.trans (run_ok h3) ?_
  rfl
end Go.Ev

namespace Go.Ev
open Go
set_option linter.unusedVariables false
set_option linter.unusedSimpArgs false
def NoNum (p : Program) : Prop := ∀ (f : FuncId) (fn : Func), p.funcs[f]? = some fn → fn.body.isSome = true → fn.name ≠ "runtime.NumGoroutine"
theorem callMethod_does {base : Nat} {p : Program} {xb : XB} (hxb : XBok p xb) (hno : NoNum p) {m : Mem} {σ : Sg} {w : World} (h : MR base m σ w) {t : TypeId} {v : V} {X : Value} {name : String} {args : List V} {us : Array Value} (hX : Rel σ v X) (hr : RelL σ args us.toList) :
    Does base p σ w (callMethod (.iface t X) name us) (match methodV p m t v name with | some (f, r) => externV p xb m f (r :: args) | none => .fail) := by
  cases hm : methodV p m t v name with
  | none => trivial
  | some q =>
    obtain ⟨f, r⟩ := q
    dsimp only
    have hdep : ∃ n, p.types.size + Made.depth = n + 1 := ⟨_, rfl⟩
    obtain ⟨n, hn⟩ := hdep
    obtain ⟨y, h1, h2⟩ := method_run h hX hm n
    rw [← hn] at h1
    have e1 : (callMethod (.iface t X) name us).run p w = (callFunc f (#[y] ++ us)).run p w := by
      unfold callMethod
      rw [run_stoodIn]
      exact run_ok h1
    have hd := extern_does hxb h (f := f) (args := r :: args) (us := #[y] ++ us) (by
      rw [Array.toList_append]
      exact RelL.cons h2 hr) (fun fn hf hb => hno f fn hf hb)
    cases hx : externV p xb m f (r :: args) with
    | val v' m' => rw [hx] at hd; simp only [Does, e1] at hd ⊢; exact hd
    | skip m' => rw [hx] at hd; simp only [Does, e1] at hd ⊢; exact hd
    | call g a m' => rw [hx] at hd; simp only [Does, e1] at hd ⊢; exact hd
    | fail => trivial
theorem Does.congr {base : Nat} {p : Program} {σ : Sg} {w : World} {s s' : Sem Next} {r : R} (h : Does base p σ w s r) (e : s'.run p w = s.run p w) : Does base p σ w s' r := by
  cases r with
  | val v m' => obtain ⟨x, σ', w', h1, h2⟩ := h; exact ⟨x, σ', w', e.trans h1, h2⟩
  | skip m' => obtain ⟨σ', w', h1, h2⟩ := h; exact ⟨σ', w', e.trans h1, h2⟩
  | call f a m' => obtain ⟨us, w', h1, h2⟩ := h; exact ⟨us, w', e.trans h1, h2⟩
  | fail => trivial
theorem fnV_does {base : Nat} {p : Program} {xb : XB} (hxb : XBok p xb) (hno : NoNum p) {m : Mem} {σ : Sg} {w : World} (h : MR base m σ w) {f : V} {F : Value} {args : List V} {us : Array Value} (hF : Rel σ f F) (hr : RelL σ args us.toList) :
    Does base p σ w (do let d ← Deferred.ofValue F us; invoke d.target d.args) (fnV p xb m f args) := by
  unfold fnV
  split
  · rename_i g first captured
    cases hF with
    | fn _ _ _ fs cs h1 h2 h3 h4 =>
    refine (extern_does hxb h (f := g) (args := first ++ args ++ captured) (us := fs ++ us ++ cs) ?_ (fun fn hf hb => hno g fn hf hb)).congr rfl
    rw [Array.toList_append, Array.toList_append]
    exact ((relL_arr.2 ⟨h1, h3⟩).append hr).append (relL_arr.2 ⟨h2, h4⟩)
  · rename_i name first captured
    cases hF with
    | fn _ _ _ fs cs h1 h2 h3 h4 =>
    have hall : RelL σ (first ++ args) (fs ++ us).toList := by rw [Array.toList_append]; exact (relL_arr.2 ⟨h1, h3⟩).append hr
    split
    · rename_i t v rest e
      rw [e] at hall
      obtain ⟨X, ys, e2, hX, hs⟩ := hall.of_cons
      cases hX with
      | iface _ hv =>
      rename_i X
      have e3 : fs ++ us = #[.iface t X] ++ ys.toArray := by apply Array.ext'; simpa using e2
      refine (callMethod_does hxb hno h hv (us := ys.toArray) (by simpa using hs)).congr ?_
      show (invoke (.fn (.method name) cs) (fs ++ us)).run p w = _
      unfold invoke
      rw [e3]
      simp
    · trivial
  · rename_i t name first captured
    cases hF with
    | fn _ _ _ fs cs h1 h2 h3 h4 =>
    have hall : RelL σ (first ++ args) (fs ++ us).toList := by rw [Array.toList_append]; exact (relL_arr.2 ⟨h1, h3⟩).append hr
    split
    · rename_i x rest e
      rw [e] at hall
      obtain ⟨X, ys, e2, hX, hs⟩ := hall.of_cons
      have e3 : fs ++ us = #[X] ++ ys.toArray := by apply Array.ext'; simpa using e2
      have hinv : (invoke (.fn (.methodOf t name) cs) (fs ++ us)).run p w = (do
          let recv := match ← underlying t with
            | .interface _ => X
            | _ => .iface t X
          callMethod recv name ys.toArray : Sem Next).run p w := by
        unfold invoke
        rw [e3]
        simp
        rfl
      split
      · rename_i ms hd
        split
        · rename_i t' v
          cases hX with
          | iface _ hv =>
          refine (callMethod_does hxb hno h hv (us := ys.toArray) (by simpa using hs)).congr ?_
          refine Eq.trans hinv ?_
          exact run_ok (run_underlying hd w)
        · trivial
      · rename_i d hn hd
        refine (callMethod_does hxb hno h hX (us := ys.toArray) (by simpa using hs)).congr ?_
        refine Eq.trans hinv ?_
        refine Eq.trans (run_ok (run_underlying hd w)) ?_
        cases d <;> first | rfl | exact (hn _ rfl).elim
      · trivial
    · trivial
  · rename_i t path g pr first captured
    cases hF with
    | fn _ _ _ fs cs h1 h2 h3 h4 =>
    have hall : RelL σ (first ++ args) (fs ++ us).toList := by rw [Array.toList_append]; exact (relL_arr.2 ⟨h1, h3⟩).append hr
    split
    · rename_i x rest e
      rw [e] at hall
      obtain ⟨X, ys, e2, hX, hs⟩ := hall.of_cons
      have e3 : fs ++ us = #[X] ++ ys.toArray := by apply Array.ext'; simpa using e2
      split
      · rename_i xt y hfol
        split
        · rename_i r hrec
          obtain ⟨pl, g1, g2⟩ := follow_run h path.toList t (.inl x) (.val X) xt y hX hfol
          obtain ⟨z, g3, g4⟩ := receiver_run h none g2 hrec
          have hvia : (receiverVia t X path pr).run p w = .ok z w := by
            unfold receiverVia
            refine Eq.trans (run_ok g1) ?_
            exact g3
          refine (extern_does hxb h (f := g) (args := r :: rest) (us := #[z] ++ ys.toArray) (by
            rw [Array.toList_append]; exact RelL.cons g4 (by simpa using hs)) (fun fn hf hb => hno g fn hf hb)).congr ?_
          show (invoke (.fn (.via t path g pr) cs) (fs ++ us)).run p w = _
          have e5 : (#[X] ++ ys.toArray).extract 1 (#[X] ++ ys.toArray).size = ys.toArray := by simp
          have e4 : (#[X] ++ ys.toArray)[0]? = some X := by simp
          unfold invoke
          rw [e3]
          dsimp only
          rw [e4, e5]
          exact run_ok hvia
        · trivial
      · trivial
    · trivial
  · trivial
end Go.Ev

namespace Go.Ev
open Go
set_option linter.unusedVariables false
set_option linter.unusedSimpArgs false
theorem Makes.next {base : Nat} {p : Program} {σ : Sg} {w : World} {s : Sem Value} {v : V} {m' : Mem} {t : Sem Next} (h : Makes base p σ w s v m') (e : t = (do pure (.value (← s)))) : Does base p σ w t (.val v m') := e ▸ h.does
theorem does_of2 {base : Nat} {p : Program} {σ : Sg} {w : World} {t : Sem Next} {x : Option (V × Mem)} (h : ∀ v m', x = some (v, m') → Does base p σ w t (.val v m')) : Does base p σ w t (R.of2 x) := by
  cases x with
  | none => trivial
  | some q => exact h q.1 q.2 rfl
theorem does_of {base : Nat} {p : Program} {σ : Sg} {w : World} {t : Sem Next} {m : Mem} {x : Option V} (h : ∀ v, x = some v → Does base p σ w t (.val v m)) : Does base p σ w t (R.of x m) := by
  cases x with
  | none => trivial
  | some q => exact h q rfl
theorem builtinV_does {base : Nat} {p : Program} {m : Mem} {σ : Sg} {w : World} (h : MR base m σ w) {b : Builtin} {ts : Array TypeId} {type : TypeId} {cs : Array Bool} {args : List V} {us : Array Value} (hr : RelL σ args us.toList) : Does base p σ w (builtin b ts type cs us) (builtinV p m b ts args) := by
  have harr : ∀ l, us.toList = l → us = l.toArray := fun l e => by rw [← e]
  unfold builtinV
  split
  · rename_i r
    obtain ⟨X, r', e, hX, hs⟩ := hr.of_cons
    obtain rfl := hs.of_nil
    rw [harr _ e]
    split
    case h_2 => trivial
    rename_i t ht
    split
    case h_2 => trivial
    rename_i k el es hd hm
    cases hX with
    | @map _ cb hs =>
    obtain ⟨_, _, vs, clk, hh, hE⟩ := h.mp r es hm _ hs
    obtain ⟨r2, rfl⟩ := array_head ht
    refine Makes.next (Makes.same (x := .int .i64 (.ofNat es.length)) h ?_ (.int _ _)) rfl
    refine Eq.trans (run_ok (run_underlying hd w)) ?_
    refine Eq.trans (run_ok (show (getObj cb).run p w = .ok (.map vs clk) w by simp [getObj, Sem.run, hh])) ?_
    rw [hE.1]; rfl
  · rename_i s x
    obtain ⟨X, r', e, hX, hs⟩ := hr.of_cons
    obtain ⟨Y, r'', rfl, hY, hs⟩ := hs.of_cons
    obtain rfl := hs.of_nil
    rw [harr _ e]
    exact does_of2 fun v m' hv => (append_makes (type := type) h hX hY hv).next rfl
  · rename_i d s
    obtain ⟨X, r', e, hX, hs⟩ := hr.of_cons
    obtain ⟨Y, r'', rfl, hY, hs⟩ := hs.of_cons
    obtain rfl := hs.of_nil
    rw [harr _ e]
    exact does_of2 fun v m' hv => (copy_makes (type := type) h hX hY hv).next rfl
  · rename_i b i kk n
    obtain ⟨X, r', e, hX, hs⟩ := hr.of_cons
    obtain ⟨Y, r'', rfl, hY, hs⟩ := hs.of_cons
    obtain rfl := hs.of_nil
    rw [harr _ e]
    cases hY
    split
    case h_2 => trivial
    rename_i k hk
    cases hc : (Nat.beq (p.cellsOf k.el) 1 && (match ts[0]? with | some pt => (match p.underlying pt with | some (.pointer u) => sameLayout p p.depth k.el u | _ => false) | none => false) && Nat.ble (n + 1) (2 ^ 40)) with
    | false => trivial
    | true =>
      simp only [Bool.and_eq_true, Nat.beq_eq, Nat.ble_eq] at hc
      obtain ⟨⟨h1, h2⟩, h3⟩ := hc
      simp only [cond_true]
      split at h2
      case h_2 => cases h2
      rename_i pt hpt
      split at h2
      case h_2 => cases h2
      rename_i u hd
      split
      case h_2 => trivial
      rename_i cs hcs
      split
      case h_2 => trivial
      rename_i ns m2 hns hfr
      exact (unsafeString_makes (type := type) (kk := kk) h hX hk h1 hpt hd h2 hcs hns hfr h3).next rfl
  · trivial
theorem callV_does {base : Nat} {p : Program} {xb : XB} (hxb : XBok p xb) (hno : NoNum p) {m : Mem} {σ : Sg} {w : World} (h : MR base m σ w) {e : Env} {ρ : Operand → Value} {c : Call} {o : Oper} (hop : o.op = .call c) (hO : OpR σ e ρ o.op.operands.toList) :
    Does base p σ w (execOp ρ o) (callV p xb e m c) := by
  obtain ⟨dst, op, type, pos, after, guard⟩ := o
  dsimp only at hop
  subst hop
  have hexec : execOp ρ ⟨dst, .call c, type, pos, after, guard⟩ = (do let d ← resolve ρ c type; invoke d.target d.args) := rfl
  unfold callV
  split
  · trivial
  rename_i args hargs
  have hr : RelL σ args (c.args.map ρ).toList := by
    rw [Array.toList_map]
    exact evalL_rel (fun x hx v hv => hO x (by simp [Op.operands, Call.operands]; right; simpa using hx) v hv) hargs
  split
  · rename_i b hc
    refine (builtinV_does (type := type) (cs := c.args.map fun | .const _ => true | _ => false) h hr).congr ?_
    rw [hexec]
    unfold resolve
    rw [hc]
    rfl
  · rename_i r name hc
    split
    · rename_i t v hv
      have hR := hO r (by simp [Op.operands, Call.operands, hc]) _ hv
      generalize hX : ρ r = X at hR
      cases hR with
      | iface _ hvx =>
      refine (callMethod_does hxb hno h hvx hr).congr ?_
      rw [hexec]
      unfold resolve
      rw [hc]
      dsimp only
      rw [hX]
      rename_i X'
      have e5 : (#[Value.iface t X'] ++ c.args.map ρ).extract 1 (#[Value.iface t X'] ++ c.args.map ρ).size = c.args.map ρ := by simp
      have e4 : (#[Value.iface t X'] ++ c.args.map ρ)[0]? = some (.iface t X') := by simp [Array.getElem?_append]
      show (invoke (.fn (.method name) #[]) (#[Value.iface t X'] ++ c.args.map ρ)).run p w = _
      unfold invoke
      dsimp only
      rw [e4, e5]
    · trivial
  · rename_i f hc
    split
    · rename_i fv hf
      have hR := hO f (by simp [Op.operands, Call.operands, hc]) _ hf
      refine (fnV_does hxb hno h hR hr).congr ?_
      rw [hexec]
      unfold resolve
      rw [hc]
    · trivial
theorem buildSlice_makes {base : Nat} {p : Program} {m : Mem} {σ : Sg} {w : World} (h : MR base m σ w) {t el : TypeId} {n : Nat} {vs : List (Nat × V)} {ps : Array (Nat × Value)} {z : V} {cs : List V} (hd : p.underlying t = some (.slice el)) (hP : PartsR σ vs ps.toList) (hz : zeroV p el = some z)
    (h1 : n * p.cellsOf el ≤ 2 ^ 24) (h2 : z.cells.length = p.cellsOf el) (hcs : buildParts (fun i => some (i * p.cellsOf el, p.cellsOf el)) vs (repL z.cells n) = some cs) (hc2 : cs.length = n * p.cellsOf el) :
    Makes base p σ w (Instr.buildSlice t n ps) (.sl m.next 0 n n (p.cellsOf el)) (m.newL el cs (n * p.cellsOf el)).2 := by
  obtain ⟨Z, hZ, hR, i, hi⟩ := run_zero σ hz w
  have hZl : Z.cells.size = p.cellsOf el := by rw [← h2, hR.cells.1, Array.length_toList]
  have hrep := range_rep (σ := σ) hR.cells n
  have hrow : RelL σ (repL z.cells n) ((Array.range (n * p.cellsOf el)).map (fun x => Z.cells[x % Z.cells.size]!)).toList := by
    rw [array_map_range, ← hZl]
    simpa using hrep
  obtain ⟨cells', hf, hR'⟩ := fill_rel hP hrow hcs
  obtain ⟨σ', hrun, hM, hT, hs⟩ := h.row (p := p) el (rest := []) hR' (n * p.cellsOf el) (fun _ => by rw [List.append_nil, ← hR'.1, hc2])
  rw [hc2] at hM
  have hs' : σ' m.next = some (w.heap.size, 0, n * p.cellsOf el) := by
    rw [hs, List.append_nil, ← hR'.1, hc2]
  have e1 : (cells'.toList ++ []).toArray = cells' := by simp
  rw [e1] at hrun hM hT
  refine ⟨.slice (some ⟨w.heap.size, 0, none⟩) n n, σ', _, ?_, slNew hs' (Nat.le_refl _) (Nat.le_refl _), hM, hT⟩
  refine Eq.trans (run_ok (run_underlying hd w)) ?_
  refine Eq.trans (run_ok (run_sizeOf hi w)) ?_
  refine Eq.trans (run_neg (Nat.not_lt.2 h1)) ?_
  by_cases h0 : n * p.cellsOf el = 0
  · refine Eq.trans (run_pos h0) ?_
    refine Eq.trans (run_ok (run_pure _ _ _)) ?_
    have e0 : (Array.range (n * p.cellsOf el)).map (fun x => (#[] : Array Value)[x % (#[] : Array Value).size]!) = (Array.range (n * p.cellsOf el)).map (fun x => Z.cells[x % Z.cells.size]!) := by rw [h0]; simp
    dsimp only
    rw [e0, hf]
    exact run_ok hrun
  · refine Eq.trans (run_neg h0) ?_
    refine Eq.trans (run_ok hZ) ?_
    refine Eq.trans (run_ok (run_pure _ _ _)) ?_
    dsimp only
    rw [hf]
    exact run_ok hrun
theorem memV_does {base : Nat} {p : Program} {xb : XB} (hxb : XBok p xb) (hno : NoNum p) {m : Mem} {σ : Sg} {w : World} (h : MR base m σ w) {e : Env} {ρ : Operand → Value} {o : Oper} (hO : OpR σ e ρ o.op.operands.toList) :
    Does base p σ w (execOp ρ o) (memV p xb e m o) := by
  cases hop : o.op with
  | call c =>
    have : memV p xb e m o = callV p xb e m c := by unfold memV; rw [hop]
    rw [this]
    exact callV_does hxb hno h hop hO
  | alloc t =>
    obtain ⟨dst, op, type, pos, after, guard⟩ := o
    dsimp only at hop
    subst hop
    unfold memV
    dsimp only
    split
    · rename_i z hz
      exact (alloc_makes h hz).next rfl
    · trivial
  | box t x =>
    obtain ⟨dst, op, type, pos, after, guard⟩ := o
    dsimp only at hop
    subst hop
    unfold memV
    dsimp only
    split
    · rename_i v hv
      exact (box_makes h (hO x (by simp [Op.operands]) v hv)).next rfl
    · trivial
  | buildSlice t n ps =>
    obtain ⟨dst, op, type, pos, after, guard⟩ := o
    dsimp only at hop
    subst hop
    unfold memV
    dsimp only
    split
    case h_2 => trivial
    rename_i el hd
    split
    case h_2 => trivial
    rename_i vs z hvs hz
    cases hc1 : (Nat.ble (n * p.cellsOf el) (2 ^ 24) && Nat.beq z.cells.length (p.cellsOf el)) with
    | false => trivial
    | true =>
    simp only [cond_true]
    simp only [Bool.and_eq_true, Nat.ble_eq, Nat.beq_eq] at hc1
    obtain ⟨h1, h2⟩ := hc1
    split
    case h_2 => trivial
    rename_i cs hcs
    cases hc2 : Nat.beq cs.length (n * p.cellsOf el) with
    | false => trivial
    | true =>
    simp only [cond_true]
    rw [Nat.beq_eq] at hc2
    have hP : PartsR σ vs (ps.map fun (i, x) => (i, ρ x)).toList := by
      rw [Array.toList_map]
      exact evalParts_rel (fun x hx u hu => hO x (by simpa [Op.operands] using hx) u hu) hvs
    exact (buildSlice_makes h hd hP hz h1 h2 hcs hc2).next rfl
  | load t a =>
    obtain ⟨dst, op, type, pos, after, guard⟩ := o
    dsimp only at hop
    subst hop
    unfold memV
    dsimp only
    split
    · rename_i av ha
      refine does_of fun v hv => ?_
      obtain ⟨x, h1, h2⟩ := loadVar_run h (hO a (by simp [Op.operands]) _ ha) hv
      exact (Makes.same h h1 h2).next rfl
    · trivial
  | store t a x =>
    obtain ⟨dst, op, type, pos, after, guard⟩ := o
    dsimp only at hop
    subst hop
    unfold memV
    dsimp only
    split
    · rename_i av xv ha hx
      split
      · rename_i m' hm
        obtain ⟨w', h1, h2, h3⟩ := storeVar_run (p := p) h (hO a (by simp [Op.operands]) _ ha) (hO x (by simp [Op.operands]) _ hx) hm
        exact ⟨σ, w', run_ok h1, h2, h3⟩
      · trivial
    · trivial
  | convert s d x =>
    obtain ⟨dst, op, type, pos, after, guard⟩ := o
    dsimp only at hop
    subst hop
    unfold memV
    dsimp only
    split
    · rename_i xv hx
      exact does_of2 fun v m' hv => (convM_makes h (hO x (by simp [Op.operands]) _ hx) hv).next rfl
    · trivial
  | makeMap t r =>
    obtain ⟨dst, op, type, pos, after, guard⟩ := o
    dsimp only at hop
    subst hop
    cases r with
    | none => exact (makeMap_makes h t).next rfl
    | some x => trivial
  | makeSlice t l c =>
    obtain ⟨dst, op, type, pos, after, guard⟩ := o
    dsimp only at hop
    subst hop
    unfold memV
    dsimp only
    split
    · rename_i lv cv hl hc
      exact does_of2 fun v m' hv => (makeSlice_makes h (hO l (by simp [Op.operands]) _ hl) (hO c (by simp [Op.operands]) _ hc) hv).next rfl
    · trivial
  | slice t x lo hi mx =>
    obtain ⟨dst, op, type, pos, after, guard⟩ := o
    dsimp only at hop
    subst hop
    unfold memV
    dsimp only
    split
    · rename_i xv lv hv' hx hl hh
      refine does_of fun v hv => ?_
      obtain ⟨z, h1, h2⟩ := sliceA_run h (hO x (by simp [Op.operands]) _ hx) (opt_rel (fun y hy u hu => hO y (by subst hy; simp [Op.operands]) u hu) hl) (opt_rel (fun y hy u hu => hO y (by subst hy; simp [Op.operands]) u hu) hh) hv
      exact (Makes.same h h1 h2).next rfl
    · trivial
  | lookup t x k ok =>
    obtain ⟨dst, op, type, pos, after, guard⟩ := o
    dsimp only at hop
    subst hop
    unfold memV
    dsimp only
    split
    · rename_i xv kv hx hk
      refine does_of fun v hv => ?_
      obtain ⟨z, h1, h2⟩ := lookup_run h (hO x (by simp [Op.operands]) _ hx) (hO k (by simp [Op.operands]) _ hk) hv
      exact (Makes.same h h1 h2).next rfl
    · trivial
  | mapUpdate t x k v =>
    obtain ⟨dst, op, type, pos, after, guard⟩ := o
    dsimp only at hop
    subst hop
    unfold memV
    dsimp only
    split
    · rename_i r kv vv hx hk hv
      split
      · rename_i m' hm
        obtain ⟨w', h1, h2, h3⟩ := mapUpdate_run (p := p) h (hO x (by simp [Op.operands]) _ hx) (hO k (by simp [Op.operands]) _ hk) (hO v (by simp [Op.operands]) _ hv) hm
        exact ⟨σ, w', run_ok h1, h2, h3⟩
      · trivial
    · trivial
  | insert t x k v =>
    obtain ⟨dst, op, type, pos, after, guard⟩ := o
    dsimp only at hop
    subst hop
    unfold memV
    dsimp only
    split
    · rename_i r kv vv hx hk hv
      split
      · rename_i m' hm
        obtain ⟨w', h1, h2, h3⟩ := mapUpdate_run (p := p) h (hO x (by simp [Op.operands]) _ hx) (hO k (by simp [Op.operands]) _ hk) (hO v (by simp [Op.operands]) _ hv) hm
        exact ⟨σ, w', run_ok h1, h2, h3⟩
      · trivial
    · trivial
  | _ => unfold memV; rw [hop]; trivial
end Go.Ev

namespace Go.Ev
open Go
set_option linter.unusedVariables false
set_option linter.unusedSimpArgs false
def EnvR (σ : Sg) (e : Env) (tmps : Array Value) : Prop := ∀ t v, e.get t = some v → ∃ x, tmps[t]? = some x ∧ Rel σ v x
theorem EnvR.mono {σ τ : Sg} {e : Env} {tmps : Array Value} (h : EnvR σ e tmps) (hle : σ.le τ) : EnvR τ e tmps := fun t v hv => by
  obtain ⟨x, hx, hR⟩ := h t v hv
  exact ⟨x, hx, hR.mono hle⟩
theorem evalO_rel {σ : Sg} {e : Env} {a : Act} {x : Operand} {v : V} (h : ∀ t, x = .tmp t → ∀ u, e.get t = some u → ∃ y, a.tmps[t]? = some y ∧ Rel σ u y) (hv : evalO e x = some v) : Rel σ v (a.eval x) := by
  cases x with
  | tmp t =>
    obtain ⟨y, hy, hR⟩ := h t rfl v hv
    have : a.eval (.tmp t) = y := by simp [Act.eval, hy]
    rw [this]; exact hR
  | const c => exact ofValue_rel σ c v hv
  | global g => simp [evalO] at hv; subst hv; exact .gptr g 0
  | func f => simp [evalO] at hv; subst hv; exact .fn (.func f) [] [] #[] #[] rfl rfl (fun i v x h => by simp at h) (fun i v x h => by simp at h)
theorem EnvR.ops {σ : Sg} {e : Env} {a : Act} (h : EnvR σ e a.tmps) (xs : List Operand) : OpR σ e a.eval xs := fun x _ v hv => evalO_rel (fun t _ u hu => h t u hu) hv
theorem put_size (a : Act) (d : Option Tmp) (v : Value) : (a.put d v).tmps.size = a.tmps.size := by cases d <;> simp [Act.put]
theorem put_defs (a : Act) (d : Option Tmp) (v : Value) : (a.put d v).defers = a.defers := by cases d <;> rfl
theorem setO_rel {σ : Sg} {nt : Nat} {e e' : Env} {a : Act} {d : Option Tmp} {v : V} {x : Value} (h : EnvR σ e a.tmps) (hn : a.tmps.size = nt) (hs : setO nt e d v = some e') (hR : Rel σ v x) : EnvR σ e' (a.put d x).tmps := by
  cases d with
  | none => simp [setO] at hs; subst hs; exact h
  | some d =>
    simp only [setO, bif_some, Nat.blt_eq, Option.some.injEq] at hs
    obtain ⟨hlt, rfl⟩ := hs
    intro t u hu
    rw [T.get_set] at hu
    simp only [Act.put]
    by_cases e1 : t = d
    · subst e1
      rw [if_pos rfl] at hu
      cases hu
      exact ⟨x, by rw [Array.getElem?_setIfInBounds_self_of_lt (by omega)], hR⟩
    · rw [if_neg e1] at hu
      obtain ⟨y, hy, hRy⟩ := h t u hu
      exact ⟨y, by rw [Array.getElem?_setIfInBounds_ne (fun e2 => e1 e2.symm)]; exact hy, hRy⟩
theorem wantedV_spec {σ : Sg} {e : Env} {tmps : Array Value} {ops : Array Oper} {o : Oper} {b : Bool} (h : ∀ j w oj d, o.guard = some (j, w) → ops[j]? = some oj → oj.dst = some d → ∀ u, e.get d = some u → ∃ x, tmps[d]? = some x ∧ Rel σ u x) (hw : wantedV ops e o = some b) : Region.wanted o (yielded ops tmps) = b := by
  unfold wantedV at hw
  unfold Region.wanted
  split at hw
  · rename_i hg; rw [hg]; cases hw; rfl
  · rename_i j want hg
    rw [hg]
    split at hw
    · cases hw
    rename_i oj hoj
    split at hw
    · cases hw
    rename_i d hd
    dsimp only
    unfold yielded
    rw [hoj]
    simp only [Option.bind_some, hd]
    split at hw
    · rename_i b' hb
      obtain ⟨x, hx, hR⟩ := h j want oj d hg hoj hd _ hb
      cases hR
      cases hw
      rw [hx]
      cases b' <;> cases want <;> rfl
    · rename_i u hn hu
      obtain ⟨x, hx, hR⟩ := h j want oj d hg hoj hd _ hu
      cases hw
      rw [hx]
      cases hR <;> first | rfl | exact absurd rfl (hn _)
    · cases hw
def CFok (p : Program) (cf : CallF) : Prop := ∀ (f : FuncId) (args : List V) (m : Mem) (v : V) (m' : Mem), cf f args m = some (v, m') → ∀ (base : Nat) (σ : Sg) (w : World) (us : Array Value), MR base m σ w → RelL σ args us.toList →
  Calls p f us w fun e w' => ∃ x σ', e = .returned x ∧ Rel σ' v x ∧ MR base m' σ' w' ∧ Tr base σ w σ' w'
theorem Rel.undef (σ : Sg) : Rel σ (.tup []) undef := Rel.tupL.2 (.nil σ)
theorem opV_does {base : Nat} {p : Program} {xb : XB} (hxb : XBok p xb) (hno : NoNum p) {m : Mem} {σ : Sg} {w : World} (h : MR base m σ w) {e : Env} {ρ : Operand → Value} {o : Oper} (hO : OpR σ e ρ o.op.operands.toList) : Does base p σ w (execOp ρ o) (opV p xb e m o) := by
  unfold opV
  split
  · rename_i v hv
    obtain ⟨x, h1, h2⟩ := nV_run hO hv w
    exact ⟨x, σ, w, h1, h2, h, Tr.refl _ _ _⟩
  · exact memV_does hxb hno h hO
theorem does_wp {base : Nat} {p : Program} {cf : CallF} (hcf : CFok p cf) {σ : Sg} {w : World} {a : Act} {o : Oper} {r : R} {v : V} {m' : Mem} {Q : Exit → Act → World → Prop} {K : Act → World → Prop} (hd : Does base p σ w (execOp a.eval o) r)
    (hr : r.fin cf = some (v, m'))
    (hK : ∀ x σ' w', Rel σ' v x → MR base m' σ' w' → Tr base σ w σ' w' → K (a.put o.dst x) w') : o.wp p a w K Q := by
  unfold Oper.wp
  cases r with
  | val u m2 =>
    cases hr
    obtain ⟨x, σ', w', h1, h2, h3, h4⟩ := hd
    rw [h1]
    exact hK x σ' w' h2 h3 h4
  | skip m2 =>
    cases hr
    obtain ⟨σ', w', h1, h3, h4⟩ := hd
    rw [h1]
    exact hK undef σ' w' (Rel.undef σ') h3 h4
  | call f args m2 =>
    obtain ⟨us, w', h1, h2, h3, h4⟩ := hd
    rw [h1]
    refine (hcf f args m2 v m' hr base σ w' us h3 h2).mono fun e w'' ⟨x, σ', he, hR, hM, hT⟩ => ?_
    subst he
    exact hK x σ' w'' hR hM (h4.trans hT)
  | fail => cases hr
theorem stepV_wp {base : Nat} {p : Program} {xb : XB} (hxb : XBok p xb) (hno : NoNum p) {cf : CallF} (hcf : CFok p cf) {m m' : Mem} {σ : Sg} {w : World} (h : MR base m σ w) {e : Env} {a : Act} {ops : Array Oper} {i : Nat} {o : Oper} {v : V} {Q : Exit → Act → World → Prop} {K : Act → World → Prop}
    (hi : ops[i]? = some o) (hE : ∀ t, t ∈ o.looksAt ops → ∀ u, e.get t = some u → ∃ x, a.tmps[t]? = some x ∧ Rel σ u x) (hs : stepV p xb cf ops o e m = some (v, m')) (hK : ∀ x σ' w', Rel σ' v x → MR base m' σ' w' → Tr base σ w σ' w' → K (a.put o.dst x) w') : wpOp p ops Q i K a w := by
  unfold stepV at hs
  unfold wpOp
  rw [hi]
  dsimp only
  have hO : OpR σ e a.eval o.op.operands.toList := fun x hx v hv => evalO_rel (fun t ht u hu => hE t (by
    subst ht
    unfold Oper.looksAt
    exact List.mem_append_left _ (List.mem_filterMap.2 ⟨.tmp t, hx, rfl⟩)) u hu) hv
  have hG : ∀ b, wantedV ops e o = some b → Region.wanted o (yielded ops a.tmps) = b := fun b hb => wantedV_spec (fun j w' oj d hg hoj hd u hu => hE d (by
    unfold Oper.looksAt
    refine List.mem_append_right _ ?_
    rw [hg]
    simp [hoj, hd]) u hu) hb
  split at hs
  · cases hs
  · rename_i hw
    cases hs
    rw [hG _ hw, if_neg (by simp)]
    exact hK undef σ w (Rel.undef σ) h (Tr.refl _ _ _)
  · rename_i hw
    rw [hG _ hw, if_pos rfl]
    exact .inl (does_wp hcf (opV_does hxb hno h hO) hs hK)
theorem opsV_wp {base : Nat} {p : Program} {xb : XB} (hxb : XBok p xb) (hno : NoNum p) {cf : CallF} (hcf : CFok p cf) {nt : Nat} {ops : Array Oper} {Q : Exit → Act → World → Prop} : ∀ (l : List Oper) (i : Nat) (e : Env) (m : Mem) (e' : Env) (m' : Mem) (σ : Sg) (w : World) (a : Act), ops.toList.drop i = l →
    opsV p xb cf nt ops l e m = some (e', m') → MR base m σ w → EnvR σ e a.tmps → a.tmps.size = nt →
    (∀ σ' w' a', MR base m' σ' w' → EnvR σ' e' a'.tmps → a'.tmps.size = nt → a'.defers = a.defers → Tr base σ w σ' w' → Q .normal a' w') → wpOps p ops Q (List.range' i l.length) a w := by
  intro l
  induction l with
  | nil =>
    intro i e m e' m' σ w a hl h hM hE hn hQ
    simp [opsV] at h
    obtain ⟨rfl, rfl⟩ := h
    exact hQ σ w a hM hE hn rfl (Tr.refl _ _ _)
  | cons o l ih =>
    intro i e m e' m' σ w a hl h hM hE hn hQ
    have hi : ops[i]? = some o := by
      rw [← Array.getElem?_toList]
      have := congrArg List.head? hl
      simpa [List.head?_drop] using this
    have hl' : ops.toList.drop (i + 1) = l := by
      have := congrArg List.tail hl
      simpa [List.tail_drop] using this
    unfold opsV at h
    split at h
    · cases h
    rename_i v m1 hs
    split at h
    · cases h
    rename_i e1 he1
    rw [List.length_cons, List.range'_succ, wpOps_cons]
    refine stepV_wp hxb hno hcf hM hi (fun t _ u hu => hE t u hu) hs fun x σ' w' hR hM' hT => ?_
    refine ih (i + 1) e1 m1 e' m' σ' w' (a.put o.dst x) hl' h hM' (setO_rel (hE.mono hT.le) hn he1 hR) (by rw [put_size]; exact hn) fun σ'' w'' a' g1 g2 g3 g4 g5 => ?_
    exact hQ σ'' w'' a' g1 g2 g3 (by rw [g4, put_defs]) (hT.trans g5)
def X.out : X → Exit
  | .normal => .normal
  | .exit id => .exit id
  | .ret => .ret
def Ends (base : Nat) (σ : Sg) (w : World) (a : Act) (nt : Nat) (e' : Env) (m' : Mem) (Q : Act → World → Prop) : Prop :=
  ∀ σ' w' a', MR base m' σ' w' → EnvR σ' e' a'.tmps → a'.tmps.size = nt → a'.defers = a.defers → Tr base σ w σ' w' → Q a' w'
def DrawOkay (p : Program) (xb : XB) : Prop := ∀ (cf : CallF), CFok p cf → ∀ (nt : Nat) (ops : Array Oper) (e : Env) (m : Mem) (e' : Env) (m' : Mem), drawOk ops = true → drawV p xb cf nt ops (beforesFrom ops.toList []) (orderOf ops) e m [] [] = some (e', m') →
  ∀ (id : Nat) (base : Nat) (σ : Sg) (w : World) (a : Act) (Q : Exit → Act → World → Prop), MR base m σ w → EnvR σ e a.tmps → a.tmps.size = nt → Ends base σ w a nt e' m' (Q .normal) → (Code.region id ops true).wp p Q a w
theorem codeV_wp {p : Program} {xb : XB} (hxb : XBok p xb) (hno : NoNum p) (hdr : DrawOkay p xb) {cf : CallF} (hcf : CFok p cf) {nt n : Nat} : ∀ (c : Code) (e : Env) (m : Mem) (x : X) (e' : Env) (m' : Mem), codeV p xb cf nt n c e m = .ok x e' m' →
    ∀ (base : Nat) (σ : Sg) (w : World) (a : Act) (Q : Exit → Act → World → Prop), MR base m σ w → EnvR σ e a.tmps → a.tmps.size = nt → Ends base σ w a nt e' m' (Q x.out) → c.wp p Q a w := by
  intro c
  induction c with
  | skip =>
    intro e m x e' m' h base σ w a Q hM hE hn hQ
    simp only [codeV] at h; cases h
    exact wp_skip (hQ σ w a hM hE hn rfl (Tr.refl _ _ _))
  | label l =>
    intro e m x e' m' h base σ w a Q hM hE hn hQ
    simp only [codeV] at h; cases h
    exact wp_label (hQ σ w a hM hE hn rfl (Tr.refl _ _ _))
  | region id ops draw =>
    intro e m x e' m' h base σ w a Q hM hE hn hQ
    simp only [codeV] at h
    cases draw with
    | false =>
      simp only [cond_false] at h
      split at h
      · rename_i e1 m1 hs
        cases h
        refine wp_region ?_
        have := opsV_wp (Q := Q) hxb hno hcf ops.toList 0 e m e' m' σ w a rfl hs hM hE hn hQ
        rw [List.range_eq_range']
        simpa using this
      · cases h
    | true =>
      simp only [cond_true] at h
      split at h
      · rename_i e1 m1 hs
        cases h
        simp only [bif_some] at hs
        exact hdr cf hcf nt ops e m e' m' hs.1 hs.2 id base σ w a Q hM hE hn hQ
      · cases h
  | seq c1 c2 ih1 ih2 =>
    intro e m x e' m' h base σ w a Q hM hE hn hQ
    simp only [codeV] at h
    refine wp_seq ?_
    split at h
    · rename_i e1 m1 h1
      refine ih1 e m .normal e1 m1 h1 base σ w a _ hM hE hn fun σ' w' a' g1 g2 g3 g4 g5 => ?_
      exact ih2 e1 m1 x e' m' h base σ' w' a' Q g1 g2 g3 fun σ'' w'' a'' k1 k2 k3 k4 k5 => hQ σ'' w'' a'' k1 k2 k3 (k4.trans g4) (g5.trans k5)
    · rename_i hne
      cases x with
      | normal => exact absurd h (hne _ _)
      | exit id => exact ih1 e m _ e' m' h base σ w a _ hM hE hn fun σ' w' a' g1 g2 g3 g4 g5 => hQ σ' w' a' g1 g2 g3 g4 g5
      | ret => exact ih1 e m _ e' m' h base σ w a _ hM hE hn fun σ' w' a' g1 g2 g3 g4 g5 => hQ σ' w' a' g1 g2 g3 g4 g5
  | cond c c1 c2 ih1 ih2 =>
    intro e m x e' m' h base σ w a Q hM hE hn hQ
    simp only [codeV] at h
    split at h
    · rename_i hc
      have := hE.ops [c] c (by simp) _ hc
      generalize hv : a.eval c = X at this
      cases this
      exact wp_cond_true hv (ih1 e m x e' m' h base σ w a Q hM hE hn hQ)
    · rename_i hc
      have := hE.ops [c] c (by simp) _ hc
      generalize hv : a.eval c = X at this
      cases this
      exact wp_cond_false hv (ih2 e m x e' m' h base σ w a Q hM hE hn hQ)
    · cases h
  | block id c ih =>
    intro e m x e' m' h base σ w a Q hM hE hn hQ
    simp only [codeV] at h
    refine wp_block ?_
    split at h
    · rename_i j e1 m1 h1
      simp only [cond_eq_ite, Nat.beq_eq] at h
      refine ih e m (.exit j) e1 m1 h1 base σ w a _ hM hE hn fun σ' w' a' g1 g2 g3 g4 g5 => ?_
      show (if j = id then Q .normal a' w' else Q (.exit j) a' w')
      by_cases hj : j = id
      · rw [if_pos hj] at h ⊢
        cases h
        exact hQ σ' w' a' g1 g2 g3 g4 g5
      · rw [if_neg hj] at h ⊢
        cases h
        exact hQ σ' w' a' g1 g2 g3 g4 g5
    · rename_i hne
      cases x with
      | exit j => exact absurd h (hne _ _ _)
      | normal => exact ih e m _ e' m' h base σ w a _ hM hE hn fun σ' w' a' g1 g2 g3 g4 g5 => hQ σ' w' a' g1 g2 g3 g4 g5
      | ret => exact ih e m _ e' m' h base σ w a _ hM hE hn fun σ' w' a' g1 g2 g3 g4 g5 => hQ σ' w' a' g1 g2 g3 g4 g5
  | loop c ih =>
    intro e m x e' m' h base σ w a Q hM hE hn hQ
    simp only [codeV] at h
    intro b k cs
    have key : ∀ (i : Nat) (e : Env) (m : Mem) (σ : Sg) (w : World) (a : Act), iter (codeV p xb cf nt n c) i e m = .ok x e' m' → MR base m σ w → EnvR σ e a.tmps → a.tmps.size = nt → Ends base σ w a nt e' m' (Q x.out) →
        ∃ ex a' w', Q ex a' w' ∧ Arrives p (lone (b.at a (.code c :: .inLoop c :: k)) cs w) b k cs ex a' w' := by
      intro i
      induction i with
      | zero => intro e m σ w a h; simp [iter] at h
      | succ i ihi =>
        intro e m σ w a h hM hE hn hQ
        simp only [iter] at h
        split at h
        · rename_i e1 m1 h1
          obtain ⟨ex, a1, w1, hq, harr⟩ := ih e m .normal e1 m1 h1 base σ w a (fun ex a' w' => ex = .normal ∧ ∃ σ', MR base m1 σ' w' ∧ EnvR σ' e1 a'.tmps ∧ a'.tmps.size = nt ∧ a'.defers = a.defers ∧ Tr base σ w σ' w') hM hE hn (fun σ' w' a' g1 g2 g3 g4 g5 => ⟨rfl, σ', g1, g2, g3, g4, g5⟩) b (.inLoop c :: k) cs
          obtain ⟨rfl, σ', g1, g2, g3, g4, g5⟩ := hq
          obtain ⟨ex2, a2, w2, hq2, harr2⟩ := ihi e1 m1 σ' w1 a1 h g1 g2 g3 fun σ'' w'' a'' k1 k2 k3 k4 k5 => hQ σ'' w'' a'' k1 k2 k3 (k4.trans g4) (g5.trans k5)
          exact ⟨ex2, a2, w2, hq2, .of_steps (Steps.trans harr (.one step_inLoop)) harr2⟩
        · rename_i hne
          have hx : x ≠ .normal := fun e => by subst e; exact hne _ _ h
          obtain ⟨ex, a1, w1, hq, harr⟩ := ih e m x e' m' h base σ w a (fun ex a' w' => ex = x.out ∧ Q ex a' w') hM hE hn (fun σ' w' a' g1 g2 g3 g4 g5 => ⟨rfl, hQ σ' w' a' g1 g2 g3 g4 g5⟩) b (.inLoop c :: k) cs
          obtain ⟨rfl, hq⟩ := hq
          refine ⟨x.out, a1, w1, hq, ?_⟩
          cases x with
          | normal => exact absurd rfl hx
          | exit id => exact .pass (x := .inLoop c) rfl (fun _ _ => .inl (by simp [X.out])) harr
          | ret => exact .pass (x := .inLoop c) rfl (fun _ _ => .inl (by simp [X.out])) harr
    obtain ⟨ex, a', w', hq, harr⟩ := key n e m σ w a h hM hE hn hQ
    exact ⟨ex, a', w', hq, .of_steps (.one step_loop) harr⟩
  | exit id =>
    intro e m x e' m' h base σ w a Q hM hE hn hQ
    simp only [codeV] at h; cases h
    exact wp_exit (hQ σ w a hM hE hn rfl (Tr.refl _ _ _))
  | ret =>
    intro e m x e' m' h base σ w a Q hM hE hn hQ
    simp only [codeV] at h; cases h
    exact wp_ret (hQ σ w a hM hE hn rfl (Tr.refl _ _ _))
  | rangeFunc f ps xs b ih1 ih2 => intro e m x e' m' h; simp [codeV] at h
  | scope c ih => intro e m x e' m' h; simp [codeV] at h
  | goto l => intro e m x e' m' h; simp [codeV] at h
  | refuse w => intro e m x e' m' h; simp [codeV] at h
end Go.Ev

namespace Go.Ev
open Go
set_option linter.unusedVariables false
set_option linter.unusedSimpArgs false
theorem argsT_get : ∀ (args : List V) (i : Nat) (e : Env) (t : Nat) (v : V), (argsT args i e).get t = some v → (∃ j, t = i + j ∧ args[j]? = some v) ∨ e.get t = some v := by
  intro args
  induction args with
  | nil => intro i e t v h; exact .inr h
  | cons a args ih =>
    intro i e t v h
    rcases ih (i + 1) (e.set i a) t v h with ⟨j, rfl, hj⟩ | h
    · exact .inl ⟨j + 1, by omega, by simpa using hj⟩
    · rw [T.get_set] at h
      split at h
      · cases h; exact .inl ⟨0, by simpa using by assumption, rfl⟩
      · exact .inr h
theorem results_list {base : Nat} {p : Program} {m : Mem} {σ : Sg} {w : World} (h : MR base m σ w) {e : Env} {tmps : Array Value} (hE : EnvR σ e tmps) : ∀ (rs : List ResultVar) (vs : List V), resultsL p e m rs = some vs →
    ∃ us, (rs.mapM fun (r : ResultVar) => (match r with | .tmp t => pure (tmps.getD t undef) | .cell a t => do loadVar t (← asAddr (tmps.getD a undef)) : Sem Value)).run p w = .ok us w ∧ RelL σ vs us := by
  intro rs
  induction rs with
  | nil => intro vs hv; simp [resultsL] at hv; subst hv; exact ⟨[], rfl, .nil σ⟩
  | cons r rs ih =>
    intro vs hv
    unfold resultsL at hv
    split at hv
    case h_2 => cases hv
    rename_i v hr
    split at hv
    case h_2 => cases hv
    rename_i vs' hvs
    cases hv
    obtain ⟨us, h1, h2⟩ := ih vs' hvs
    have hone : ∃ x, (match r with | .tmp t => pure (tmps.getD t undef) | .cell a t => do loadVar t (← asAddr (tmps.getD a undef)) : Sem Value).run p w = .ok x w ∧ Rel σ v x := by
      clear hvs h1 h2
      cases r with
      | tmp t =>
        obtain ⟨x, hx, hR⟩ := hE t v hr
        exact ⟨x, by simp [hx, run_pure], hR⟩
      | cell a t =>
        simp only [resultV] at hr
        split at hr
        · rename_i b i hab
          obtain ⟨x, hx, hR⟩ := hE a _ hab
          have hR2 := hR
          cases hR with
          | @ptr _ cb o tt _ hs =>
          obtain ⟨y, h3, h4⟩ := loadVar_run (p := p) h hR2 hr
          refine ⟨y, ?_, h4⟩
          have : tmps.getD a undef = .pointer (some ⟨cb, o + i, none⟩) := by simp [hx]
          show (do loadVar t (← asAddr (tmps.getD a undef)) : Sem Value).run p w = _
          rw [this]
          exact h3
        · cases hr
    obtain ⟨x, h3, h4⟩ := hone
    refine ⟨x :: us, ?_, .cons h4 h2⟩
    rw [List.mapM_cons]
    refine Eq.trans (run_ok h3) ?_
    refine Eq.trans (run_ok h1) ?_
    rfl
theorem funV_ok {p : Program} {xb : XB} {ext : CallF} (hxb : XBok p xb) (hno : NoNum p) (hdr : DrawOkay p xb) (hext : CFok p ext) : ∀ n, CFok p (funV p xb ext n) := by
  intro n
  induction n with
  | zero => intro f args m v m' h; simp [funV] at h
  | succ n ih =>
    intro f args m v m' h base σ w us hM hr
    unfold funV at h
    split at h
    · rename_i r hx
      cases h
      exact hext f args m v m' hx base σ w us hM hr
    split at h
    · cases h
    rename_i fn hf
    split at h
    · cases h
    rename_i c hb
    simp only [bif_some, Nat.ble_eq] at h
    obtain ⟨hle, h⟩ := h
    have hus : us.size = args.length := by rw [hr.1, Array.length_toList]
    have hsize : (us ++ Array.replicate (fn.ntmps - us.size) undef).size = fn.ntmps := by simp; omega
    have hE : EnvR σ (argsT args 0 .nil) (us ++ Array.replicate (fn.ntmps - us.size) undef) := fun t u hu => by
      rcases argsT_get args 0 .nil t u hu with ⟨j, rfl, hj⟩ | h0
      · obtain ⟨x, hx, hR⟩ := hr.get hj
        rw [Array.getElem?_toList] at hx
        refine ⟨x, ?_, hR⟩
        rw [Nat.zero_add, Array.getElem?_append_left (Array.getElem?_eq_some_iff.1 hx).1]
        exact hx
      · rw [T.get_nil] at h0; cases h0
    have fin : ∀ (e' : Env) (m2 : Mem), (match resultsL p e' m2 fn.results.toList with | some [v] => some (v, m2) | some vs => some (.tup vs, m2) | none => none) = some (v, m') → ∀ σ' w' (a' : Act), MR base m2 σ' w' → EnvR σ' e' a'.tmps → a'.defers = [] → Tr base σ w σ' w' →
        a'.defers = [] ∧ ∃ x, (results fn a'.tmps).run p w' = .ok x w' ∧ ∃ x' σ'', Ending.returned x = .returned x' ∧ Rel σ'' v x' ∧ MR base m' σ'' w' ∧ Tr base σ w σ'' w' := by
      intro e' m2 hres σ' w' a' hM' hE' hd hT
      have hshape : ∀ vs, resultsL p e' m2 fn.results.toList = some vs → ∃ us, (results fn a'.tmps).run p w' = .ok (if h : us.toArray.size = 1 then us.toArray[0] else .tuple us.toArray) w' ∧ RelL σ' vs us := fun vs hvs => by
        obtain ⟨us, h1, h2⟩ := results_list hM' hE' fn.results.toList vs hvs
        refine ⟨us, ?_, h2⟩
        unfold results
        rw [mapM_array]
        refine Eq.trans (run_ok (run_map h1)) ?_
        rfl
      split at hres
      · rename_i v1 hvs
        cases hres
        obtain ⟨us, h1, h2⟩ := hshape _ hvs
        obtain ⟨x, ys, rfl, hx, hs⟩ := h2.of_cons
        obtain rfl := hs.of_nil
        exact ⟨hd, x, h1, x, σ', rfl, hx, hM', hT⟩
      · rename_i vs hne hvs
        cases hres
        obtain ⟨us, h1, h2⟩ := hshape _ hvs
        refine ⟨hd, .tuple us.toArray, ?_, .tuple us.toArray, σ', rfl, Rel.tupL.2 (by simpa using h2), hM', hT⟩
        rw [h1]
        congr 1
        rw [dif_neg]
        intro h1
        have : vs.length = 1 := by rw [h2.1]; simpa using h1
        match vs, this with
        | [u], _ => exact hne u rfl
      · cases hres
    split at h
    · cases h
    · cases h
    · rename_i x e' m2 hne hc
      refine calls_of_wp hf hb (codeV_wp hxb hno hdr ih c _ m x e' m2 hc base σ w _ _ hM hE hsize fun σ' w' a' g1 g2 g3 g4 g5 => ?_)
      have := fin e' m2 h σ' w' a' g1 g2 g4 g5
      cases x with
      | normal => exact this
      | ret => exact this
      | exit id => exact absurd rfl (hne id)
end Go.Ev
