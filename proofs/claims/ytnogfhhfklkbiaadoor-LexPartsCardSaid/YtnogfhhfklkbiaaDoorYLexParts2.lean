/- Several texts in one: contracts of functions of the program, and what they lean on. In part written by a program of this session over the kit's print, in part by hand. -/
import Derived.Test.YtnogfhhfklkbiaaDoorYLexParts0
import Derived.Test.YtnogfhhfklkbiaaDoorYLexParts1
set_option linter.unusedVariables false
set_option linter.unusedSimpArgs false
set_option maxHeartbeats 1000000
namespace Go.Proofs.YtnogfhhfklkbiaaDoor.H
open Go.RowKit Go.Proofs.YtnogfhhfklkbiaaDoorW.PrintWords Go.Proofs.YtnogfhhfklkbiaaDoorW.PrintLast Go.Proofs.YtnogfhhfklkbiaaDoorW.PrintMore
open Go.Proofs.YtnogfhhfklkbiaaDoor.Src

def joinL (x y : Lexed) : Lexed := match x.2 with
  | some e => ([], some e)
  | none => match y.2 with
    | some e => ([], some e)
    | none => (x.1 ++ y.1, none)
theorem tw_nl (m : List UInt8) : ∀ l : List UInt8, (l ++ 10 :: m).takeWhile isMore = l.takeWhile isMore
  | [] => by rw [List.nil_append, List.takeWhile_cons_of_neg (by decide)]; rfl
  | c :: l => by
    by_cases h : isMore c = true
    · rw [List.cons_append, List.takeWhile_cons_of_pos h, List.takeWhile_cons_of_pos h, tw_nl m l]
    · rw [List.cons_append, List.takeWhile_cons_of_neg h, List.takeWhile_cons_of_neg h]
theorem cut_nl (m : List UInt8) : ∀ l : List UInt8, cutN 10 (l ++ 10 :: m) = cutN 10 l
  | [] => by simp [cutN]
  | c :: l => by
    have ih := cut_nl m l
    unfold cutN at ih ⊢
    by_cases h : (c != 10) = true
    · rw [List.cons_append, List.takeWhile_cons_of_pos (p := (· != 10)) h, List.takeWhile_cons_of_pos (p := (· != 10)) h, List.length_cons, List.length_cons, ih]
    · rw [List.cons_append, List.takeWhile_cons_of_neg (p := (· != 10)) h, List.takeWhile_cons_of_neg (p := (· != 10)) h]
theorem two_nl (c : UInt8) (r m : List UInt8) : twoS (c :: r ++ 10 :: m) = twoS (c :: r) := by
  unfold twoS
  cases r with
  | nil => simp
  | cons d r => simp
theorem sgn_nl (c : UInt8) (r m : List UInt8) : sgnL (c :: r ++ 10 :: m) = sgnL (c :: r) := by
  have ht := two_nl c r m
  show (if isSign c = true then (if twoS (c :: r ++ 10 :: m) = true then (3, ba ((c :: r ++ 10 :: m).take 2), 0, 0, 2, none) else (3, ba ((c :: r ++ 10 :: m).take 1), 0, 0, 1, none)) else noTok 201) = _
  rw [ht]
  show _ = (if isSign c = true then (if twoS (c :: r) = true then (3, ba ((c :: r).take 2), 0, 0, 2, none) else (3, ba ((c :: r).take 1), 0, 0, 1, none)) else noTok 201)
  by_cases h2 : twoS (c :: r) = true
  · cases r with
    | nil => exact absurd h2 (by simp [twoS])
    | cons d r => rfl
  · rw [if_neg h2, if_neg h2]
    rfl
theorem tok_nl (c : UInt8) (r m : List UInt8) : tokL (c :: r ++ 10 :: m) = tokL (c :: r) := by
  unfold tokL
  rw [tw_nl]
  cases (c :: r).takeWhile isMore with
  | nil => exact sgn_nl c r m
  | cons d w =>
    rw [wordL_cons, wordL_cons, sgn_nl]
theorem joinL_cons (p : Nat) (t : Tk) (x y : Lexed) (h : t.2.2.2.2.2 = none ∨ ∃ e, t.2.2.2.2.2 = some e) : consT p t (joinL x y) = joinL (consT p t x) y := by
  unfold consT joinL
  rcases h with h | ⟨e, h⟩
  · rw [h]
    simp only
    cases x.2 with
    | some e => rfl
    | none =>
      simp only
      cases y.2 with
      | some e => rfl
      | none => rfl
  · rw [h]
theorem lexA_join (m : List UInt8) : ∀ (n : Nat) (l : List UInt8) (p : Nat), l.length ≤ n → lexA p (l ++ 10 :: m) = joinL (lexA p l) (lexA (p + l.length + 1) m) := by
  intro n
  induction n with
  | zero =>
    intro l p h
    have : l = [] := List.eq_nil_of_length_eq_zero (by omega)
    subst this
    rw [List.nil_append, lexA_blank p 10 m rfl, lexA_nil]
    unfold joinL
    have herr := lexL_err m.length (p + 1) m
    show lexA (p + 1) m = _
    cases he : (lexA (p + ([] : List UInt8).length + 1) m).2 with
    | some e =>
      have h1 := herr e he
      exact Prod.ext h1 he
    | none => exact Prod.ext rfl he
  | succ n ih =>
    intro l p h
    cases l with
    | nil => exact ih [] p (Nat.zero_le _)
    | cons c r =>
      simp only [List.length_cons] at h
      by_cases hb : isBlank c = true
      · rw [List.cons_append, lexA_blank p c _ hb, lexA_blank p c r hb, ih r (p + 1) (by omega), List.length_cons, show p + 1 + r.length + 1 = p + (r.length + 1) + 1 by omega]
      · have hb' : isBlank c = false := by simpa using hb
        by_cases h35 : c = 35
        · subst h35
          have hn1 : 1 ≤ cutN 10 (35 :: r) := by simp [cutN, List.takeWhile_cons]
          have hn2 := cutN_le 10 (35 :: r)
          have hc := cut_nl m (35 :: r)
          rw [List.cons_append] at hc
          rw [List.cons_append, lexA_remark, hc, lexA_remark p r, ← List.cons_append, List.drop_append_of_le_length hn2, ih _ _ (by rw [List.length_drop]; simp only [List.length_cons]; omega)]
          rw [List.length_drop, show p + cutN 10 (35 :: r) + ((35 :: r).length - cutN 10 (35 :: r)) + 1 = p + (35 :: r).length + 1 by omega]
        · have ht := tok_nl c r m
          rw [List.cons_append] at ht
          rw [List.cons_append, lexA_tok p c _ hb' h35, ht, lexA_tok p c r hb' h35]
          rw [← joinL_cons p _ _ _ (by cases (tokL (c :: r)).2.2.2.2.2 with | none => exact .inl rfl | some e => exact .inr ⟨e, rfl⟩)]
          refine consT_len (l := r) (fun he => ?_)
          obtain ⟨k, hk, hk1, hk2⟩ := tokL_len (l := c :: r) (by simp) he
          rw [hk, Int.toNat_natCast, ← List.cons_append, List.drop_append_of_le_length hk2, ih _ _ (by rw [List.length_drop]; simp only [List.length_cons]; omega)]
          rw [List.length_drop, show p + k + ((c :: r).length - k) + 1 = p + (c :: r).length + 1 by omega]
def shT (d : Nat) (t : S60) : S60 := ⟨t.f0, t.f1, t.f2, t.f3 + (d : Int)⟩
def shL (d : Nat) (x : Lexed) : Lexed := (x.1.map (shT d), x.2.map fun e => (e.1 + (d : Int), e.2))
theorem lexL_shift (d : Nat) : ∀ f p l, lexL f (p + d) l = shL d (lexL f p l) := by
  intro f
  induction f with
  | zero => intro p l; rfl
  | succ f ih =>
    intro p l
    cases l with
    | nil => rfl
    | cons c r =>
      rw [lexL, lexL]
      by_cases hb : isBlank c = true
      · rw [if_pos hb, if_pos hb, show p + d + 1 = (p + 1) + d by omega, ih]
      · rw [if_neg hb, if_neg hb]
        by_cases h35 : c = 35
        · rw [if_pos h35, if_pos h35, show p + d + cutN 10 (c :: r) = (p + cutN 10 (c :: r)) + d by omega, ih]
        · rw [if_neg h35, if_neg h35, show p + d + (tokL (c :: r)).2.2.2.2.1.toNat = (p + (tokL (c :: r)).2.2.2.2.1.toNat) + d by omega, ih]
          unfold consT
          cases (tokL (c :: r)).2.2.2.2.2 with
          | some e => simp [shL]
          | none =>
            simp only
            generalize lexL f (p + (tokL (c :: r)).2.2.2.2.1.toNat) ((c :: r).drop (tokL (c :: r)).2.2.2.2.1.toNat) = x
            obtain ⟨ts, e⟩ := x
            cases e with
            | some e => rfl
            | none => simp [shL, shT]
theorem lexA_shift (d p : Nat) (l : List UInt8) : lexA (p + d) l = shL d (lexA p l) := lexL_shift d l.length p l
theorem lexL_at : ∀ f p l, ∀ t ∈ (lexL f p l).1, ∃ q : Nat, t.f3 = (q : Int) ∧ q ≤ p + l.length := by
  intro f
  induction f with
  | zero => intro p l t h; cases h
  | succ f ih =>
    intro p l t h
    cases l with
    | nil => cases h
    | cons c r =>
      rw [lexL] at h
      by_cases hb : isBlank c = true
      · rw [if_pos hb] at h
        obtain ⟨q, h1, h2⟩ := ih _ _ t h
        exact ⟨q, h1, by simp only [List.length_cons]; omega⟩
      · rw [if_neg hb] at h
        by_cases h35 : c = 35
        · rw [if_pos h35] at h
          obtain ⟨q, h1, h2⟩ := ih _ _ t h
          have := cutN_le 10 (c :: r)
          rw [List.length_drop] at h2
          exact ⟨q, h1, by omega⟩
        · rw [if_neg h35] at h
          have hlen := tokL_len (l := c :: r) (by simp)
          unfold consT at h
          cases he : (tokL (c :: r)).2.2.2.2.2 with
          | some e => rw [he] at h; cases h
          | none =>
            obtain ⟨n, hn, hn1, hn2⟩ := hlen he
            rw [he] at h
            simp only at h
            split at h
            · cases h
            · rcases List.mem_cons.1 h with h | h
              · subst h
                exact ⟨p, rfl, by omega⟩
              · obtain ⟨q, h1, h2⟩ := ih _ _ t h
                rw [hn, Int.toNat_natCast, List.length_drop] at h2
                exact ⟨q, h1, by omega⟩
/-- Behind a text, a line's end: what goes wrong in the first goes wrong at the same place. -/
theorem bad_nl (s m : ByteArray) (hm : bt m 0 = 10) (hm0 : 0 < m.size) (i : Nat) : i ≤ s.size → ∀ a, bad s i = some a → bad (s ++ m) i = some a := by
  have hz : (s ++ m).size = s.size + m.size := ByteArray.size_append
  refine walk (s := s) (P := fun i => i ≤ s.size → ∀ a, bad s i = some a → bad (s ++ m) i = some a) ?_ ?_ ?_ i
  · intro i h hi a ha
    rw [bad_end h] at ha
    cases ha
  · intro i h hw hi a ha
    rw [bad_here h hw] at ha
    cases ha
    by_cases hw' : wd (s ++ m) i = 0
    · exact bad_here (by omega) hw'
    · exfalso
      have k := (wd_append s m i h).2 hw hw'
      have hb : bt (s ++ m) (s.size : Int) = 10 := by
        have := bt_append_right s m 0 (by omega)
        rw [Int.add_zero] at this
        rw [this, hm]
      have e := wd_int (s ++ m) i
      have hle := wd_le (s ++ m) i (by omega)
      have hs : s.size = i + 1 ∨ s.size = i + 2 ∨ s.size = i + 3 := by omega
      rcases hs with hs | hs | hs
      · rw [hs, show ((i + 1 : Nat) : Int) = (i : Int) + 1 from by omega] at hb
        rw [hb] at e
        unfold wd5 at e
        repeat' split at e
        all_goals omega
      · rw [hs, show ((i + 2 : Nat) : Int) = (i : Int) + 2 from by omega] at hb
        rw [hb] at e
        unfold wd5 at e
        repeat' split at e
        all_goals omega
      · rw [hs, show ((i + 3 : Nat) : Int) = (i : Int) + 3 from by omega] at hb
        rw [hb] at e
        unfold wd5 at e
        repeat' split at e
        all_goals omega
  · intro i h hw ih hi a ha
    have k := wd_le s i h
    have e := (wd_append s m i h).1 hw
    rw [bad_on h hw] at ha
    rw [bad_on (s := s ++ m) (by omega) (by rw [e]; exact hw), e]
    exact ih (by omega) a ha
theorem bad_two (s t : ByteArray) (hs : bad s 0 = none) : bad ((s ++ (⟨#[10]⟩ : ByteArray)) ++ t) 0 = (bad t 0).map (s.size + 1 + ·) := by
  have z : (s ++ (⟨#[10]⟩ : ByteArray)).size = s.size + 1 := by rw [ByteArray.size_append]; rfl
  have h1 : bad (s ++ (⟨#[10]⟩ : ByteArray)) 0 = none := by
    rw [(bad_append s _ 0 (Nat.zero_le _)).1 hs]
    have : bad (⟨#[10]⟩ : ByteArray) 0 = none := bad_ascii _ (fun i hi => by
      have : i = 0 := by simpa using hi
      subst this
      exact (by decide : (10 : UInt8).toNat < 128)) 0
    rw [this]
    rfl
  rw [(bad_append _ t 0 (Nat.zero_le _)).1 h1, z]
theorem shS (n : Nat) (q : Nat) (hn : n ≤ 4096) (hq : q ≤ 8200) : wrap64 (wrap64 ((q : Int) + (n : Int)) + 1) = (q : Int) + ((n + 1 : Nat) : Int) := by
  have e : wrap64 ((q : Int) + (n : Int)) = (q : Int) + (n : Int) := by unfold wrap64; omega
  rw [e]
  unfold wrap64
  omega
theorem parts_loop (s : ByteArray) (hs : s.size ≤ 4096) (b c : List S60) (hb : ∀ t ∈ b, ∃ q : Nat, t.f3 = (q : Int) ∧ q ≤ 4096) (hbl : b.length ≤ 4096) (hcl : c.length ≤ 100000) : ∀ (d i k : Nat) (acc : List S60), b.length - i = d → i ≤ b.length → acc.length ≤ 5000 + i → d + 100100 ≤ k →
    c = acc ++ (b.drop i).map (shT (s.size + 1)) → trammellaw2_LexParts.l0 k s b c 0 acc (i : Int) = some true := by
  intro d
  induction d with
  | zero =>
    intro i k acc hd hi ha hk hc
    obtain ⟨k, rfl⟩ : ∃ m, k = m + 1 := ⟨k - 1, by omega⟩
    simp only [trammellaw2_LexParts.l0]
    rw [if_neg (by omega), trammellaw0_Num.f, Option.bind_some, if_pos rfl]
    rw [List.drop_eq_nil_of_le (by omega), List.map_nil, List.append_nil] at hc
    rw [sameT_is _ _ _ (by omega) (by omega), (eqToks_iff _ _).2 hc]
    rfl
  | succ d ih =>
    intro i k acc hd hi ha hk hc
    obtain ⟨k, rfl⟩ : ∃ m, k = m + 1 := ⟨k - 1, by omega⟩
    have hlt : i < b.length := by omega
    obtain ⟨q, hq, hq2⟩ := hb _ (List.getElem_mem hlt)
    simp only [trammellaw2_LexParts.l0]
    rw [if_pos (by omega), if_pos (by omega), if_pos (by omega), rdT_at b i hlt, hq, shS s.size q hs (by omega), wrapS (by omega) (by omega), show ((i : Int) + 1) = ((i + 1 : Nat) : Int) from by omega]
    refine ih (i + 1) k _ (by omega) (by omega) (by rw [List.length_append, List.length_singleton]; omega) (by omega) ?_
    rw [hc, List.drop_eq_getElem_cons hlt, List.map_cons, List.append_assoc, List.singleton_append]
    unfold shT
    rw [hq]
theorem lexS_no200 (s : ByteArray) (hs : s.size ≤ 4096) (hb : bad s 0 = none) : lexS s = lexA 0 s.data.toList := by
  unfold lexS
  rw [if_neg (by omega), hb]
  show lexL s.size 0 s.data.toList = _
  rw [← list_size]
  rfl
theorem tokL_200 {l : List UInt8} (e : Int) (h : (tokL l).2.2.2.2.2 = some e) : e ≠ 200 ∧ e ≠ 0 := by
  have sg : (sgnL l).2.2.2.2.2 = some e → e ≠ 200 ∧ e ≠ 0 := by
    intro h
    unfold sgnL at h
    repeat' split at h
    all_goals (simp [noTok] at h; try omega)
  unfold tokL at h
  generalize l.takeWhile isMore = w at *
  cases w with
  | nil => exact sg h
  | cons c r =>
    rw [wordL_cons] at h
    by_cases h95 : c = 95
    · rw [if_pos h95] at h
      exact sg h
    · rw [if_neg h95] at h
      repeat' split at h
      all_goals (simp [noTok] at h; try omega)
theorem lexL_200 : ∀ f p l a e, (lexL f p l).2 = some (a, e) → (e ≠ 200 ∧ e ≠ 0) ∧ 0 ≤ a ∧ a ≤ ((p + l.length : Nat) : Int) := by
  intro f
  induction f with
  | zero => intro p l a e h; cases h
  | succ f ih =>
    intro p l a e h
    cases l with
    | nil => cases h
    | cons c r =>
      rw [lexL] at h
      by_cases hb : isBlank c = true
      · rw [if_pos hb] at h
        have := ih _ _ a e h
        simp only [List.length_cons]
        exact ⟨this.1, this.2.1, by omega⟩
      · rw [if_neg hb] at h
        by_cases h35 : c = 35
        · rw [if_pos h35] at h
          have h2 := ih _ _ a e h
          have := cutN_le 10 (c :: r)
          rw [List.length_drop] at h2
          exact ⟨h2.1, h2.2.1, by omega⟩
        · rw [if_neg h35] at h
          have hlen := tokL_len (l := c :: r) (by simp)
          unfold consT at h
          cases he : (tokL (c :: r)).2.2.2.2.2 with
          | some e2 =>
            rw [he] at h
            simp only [Option.some.injEq, Prod.mk.injEq] at h
            obtain ⟨rfl, rfl⟩ := h
            exact ⟨tokL_200 e2 he, by omega, by omega⟩
          | none =>
            obtain ⟨n, hn, hn1, hn2⟩ := hlen he
            rw [he] at h
            simp only at h
            split at h
            · rename_i e2 hx
              simp only [Option.some.injEq] at h
              subst h
              have h2 := ih _ _ a e hx
              rw [hn, Int.toNat_natCast, List.length_drop] at h2
              exact ⟨h2.1, h2.2.1, by omega⟩
            · cases h
theorem lexL_countP : ∀ f p l, (lexL f p l).1.length ≤ f := by
  intro f
  induction f with
  | zero => intro p l; simp [lexL]
  | succ f ih =>
    intro p l
    cases l with
    | nil => simp [lexL]
    | cons c r =>
      rw [lexL]
      by_cases hb : isBlank c = true
      · rw [if_pos hb]
        have := ih (p + 1) r
        omega
      · rw [if_neg hb]
        by_cases h35 : c = 35
        · rw [if_pos h35]
          have := ih (p + cutN 10 (c :: r)) ((c :: r).drop (cutN 10 (c :: r)))
          omega
        · rw [if_neg h35]
          have := ih (p + (tokL (c :: r)).2.2.2.2.1.toNat) ((c :: r).drop (tokL (c :: r)).2.2.2.2.1.toNat)
          unfold consT
          split
          · simp
          · split
            · simp
            · simp only [List.length_cons]
              omega
/-- What the tokens of a text are, as one of three. -/
theorem tokS_cases (s : ByteArray) (hs : s.size ≤ 4096) : (∃ a : Nat, bad s 0 = some a ∧ tokS s = ([], (a : Int), 200)) ∨
    (∃ a e : Int, bad s 0 = none ∧ (lexA 0 s.data.toList).2 = some (a, e) ∧ e ≠ 200 ∧ e ≠ 0 ∧ 0 ≤ a ∧ a ≤ 4096 ∧ tokS s = ([], a, e)) ∨
    (bad s 0 = none ∧ (lexA 0 s.data.toList).2 = none ∧ tokS s = ((lexA 0 s.data.toList).1, 0, 0)) := by
  have hl := list_size s
  cases hb : bad s 0 with
  | some a =>
    refine .inl ⟨a, rfl, ?_⟩
    unfold tokS lexS
    rw [if_neg (by omega), hb]
    rfl
  | none =>
    have hS := lexS_no200 s hs hb
    cases he : (lexA 0 s.data.toList).2 with
    | some p =>
      obtain ⟨a, e⟩ := p
      have h2 := lexL_200 _ _ _ a e he
      have h3 : (lexA 0 s.data.toList).1 = [] := lexL_err _ _ _ _ he
      refine .inr (.inl ⟨a, e, rfl, rfl, h2.1.1, h2.1.2, h2.2.1, by omega, ?_⟩)
      unfold tokS
      rw [hS, he, h3]
      rfl
    | none =>
      refine .inr (.inr ⟨rfl, rfl, ?_⟩)
      unfold tokS
      rw [hS, he]
      rfl
theorem LexParts_pure (a0 a1 : ByteArray) (h0 : a0.size ≤ 140737488351232) (h1 : a1.size ≤ 140737488351232) : ∃ k, trammellaw2_LexParts.f k a0 a1 = some true := by
  refine ⟨2 * a0.size + 2 * a1.size + 300000, ?_⟩
  have z1 : (a0 ++ (⟨#[10]⟩ : ByteArray)).size = a0.size + 1 := by rw [ByteArray.size_append]; rfl
  have z2 : ((a0 ++ (⟨#[10]⟩ : ByteArray)) ++ a1).size = a0.size + 1 + a1.size := by rw [ByteArray.size_append, z1]
  unfold trammellaw2_LexParts.f
  rw [at_rounds trammellaw2_awake.mono (by omega : 300 ≤ 2 * a0.size + 2 * a1.size + 300000) trammellaw2_awake.is, Option.bind_some, if_pos rfl, tokS_is a0 (by omega) _ (by omega), Option.bind_some, tokS_is a1 (by omega) _ (by omega), Option.bind_some, if_pos (by omega), if_pos (by omega),
    tokS_is _ (by omega) _ (by omega), Option.bind_some, wrapS (x := (a0.size : Int) + 1 + (a1.size : Int)) (by omega) (by omega)]
  simp only [trammellaw0_Num.f, Option.bind_some]
  generalize hK : 2 * a0.size + 2 * a1.size + 300000 = K at *
  by_cases h4 : (a0.size : Int) + 1 + (a1.size : Int) > 4096
  · rw [if_pos h4]
    have hT : tokS ((a0 ++ (⟨#[10]⟩ : ByteArray)) ++ a1) = ([], 0, 200) := by
      unfold tokS lexS
      rw [if_pos (by omega)]
      rfl
    rw [hT]
    rfl
  · rw [if_neg h4]
    have hlist : ((a0 ++ (⟨#[10]⟩ : ByteArray)) ++ a1).data.toList = a0.data.toList ++ 10 :: a1.data.toList := by simp
    have hl0 := list_size a0
    rcases tokS_cases a0 (by omega) with ⟨a, hb0, hT0⟩ | ⟨a, e, hb0, hx0, e2, e0, p0, p1, hT0⟩ | ⟨hb0, hx0, hT0⟩
    · have hbad : bad ((a0 ++ (⟨#[10]⟩ : ByteArray)) ++ a1) 0 = some a := by
        rw [ByteArray.append_assoc]
        refine bad_nl a0 ((⟨#[10]⟩ : ByteArray) ++ a1) ?_ (by rw [ByteArray.size_append]; show 0 < 1 + a1.size; omega) 0 (Nat.zero_le _) a hb0
        rw [bt_append_left _ _ 0 (by decide) (by decide)]
        decide
      rcases tokS_cases ((a0 ++ (⟨#[10]⟩ : ByteArray)) ++ a1) (by omega) with ⟨b, hb, hT⟩ | ⟨b, f, hb, _⟩ | ⟨hb, _⟩
      · rw [hbad] at hb
        obtain rfl := Option.some.inj hb
        rw [hT0, hT]
        simp
      · rw [hbad] at hb; cases hb
      · rw [hbad] at hb; cases hb
    all_goals
      have hbad := bad_two a0 a1 hb0
    · rcases tokS_cases a1 (by omega) with ⟨b, hb1, hT1⟩ | ⟨b, f, hb1, hx1, f2, f0, q0, q1, hT1⟩ | ⟨hb1, hx1, hT1⟩
      · rw [hb1] at hbad
        rcases tokS_cases ((a0 ++ (⟨#[10]⟩ : ByteArray)) ++ a1) (by omega) with ⟨c, hc, hT⟩ | ⟨c, f, hc, _⟩ | ⟨hc, _⟩
        · rw [hbad] at hc
          obtain rfl := Option.some.inj hc
          rw [hT0, hT1, hT]
          have hbb := bad_some 0 b hb1
          simp only [e2, if_false, if_true]
          rw [wrapS (by omega) (by omega)]
          simp
        · rw [hbad] at hc; cases hc
        · rw [hbad] at hc; cases hc
      all_goals
        rw [hb1] at hbad
        have hS := lexS_no200 _ (show ((a0 ++ (⟨#[10]⟩ : ByteArray)) ++ a1).size ≤ 4096 by omega) hbad
        have hT : tokS ((a0 ++ (⟨#[10]⟩ : ByteArray)) ++ a1) = ([], a, e) := by
          unfold tokS
          rw [hS, hlist, lexA_join a1.data.toList _ a0.data.toList 0 (Nat.le_refl _)]
          unfold joinL
          rw [hx0]
          rfl
        rw [hT0, hT1, hT]
        simp [e2, e0, *]
    · rcases tokS_cases a1 (by omega) with ⟨b, hb1, hT1⟩ | ⟨b, f, hb1, hx1, f2, f0, q0, q1, hT1⟩ | ⟨hb1, hx1, hT1⟩
      · rw [hb1] at hbad
        rcases tokS_cases ((a0 ++ (⟨#[10]⟩ : ByteArray)) ++ a1) (by omega) with ⟨c, hc, hT⟩ | ⟨c, f, hc, _⟩ | ⟨hc, _⟩
        · rw [hbad] at hc
          obtain rfl := Option.some.inj hc
          rw [hT0, hT1, hT]
          have hbb := bad_some 0 b hb1
          simp only [if_true]
          rw [if_neg (by decide), wrapS (by omega) (by omega)]
          simp
        · rw [hbad] at hc; cases hc
        · rw [hbad] at hc; cases hc
      all_goals
        rw [hb1] at hbad
        have hS := lexS_no200 _ (show ((a0 ++ (⟨#[10]⟩ : ByteArray)) ++ a1).size ≤ 4096 by omega) hbad
        have hJ := lexA_join a1.data.toList _ a0.data.toList 0 (Nat.le_refl _)
        rw [← hlist, hl0, Nat.zero_add, show a0.size + 1 = 0 + (a0.size + 1) by omega, lexA_shift] at hJ
      · have hT : tokS ((a0 ++ (⟨#[10]⟩ : ByteArray)) ++ a1) = ([], b + ((a0.size + 1 : Nat) : Int), f) := by
          unfold tokS
          rw [hS, hJ]
          unfold joinL shL
          rw [hx0, hx1]
          rfl
        rw [hT0, hT1, hT]
        simp only [f2, f0, if_false, if_true]
        rw [if_neg (by decide), wrapS (by omega) (by omega)]
        simp
        omega
      · have hT : tokS ((a0 ++ (⟨#[10]⟩ : ByteArray)) ++ a1) = ((lexA 0 a0.data.toList).1 ++ (lexA 0 a1.data.toList).1.map (shT (a0.size + 1)), 0, 0) := by
          unfold tokS
          rw [hS, hJ]
          unfold joinL shL
          rw [hx0, hx1]
          rfl
        have hc0 := lexL_countP a0.data.toList.length 0 a0.data.toList
        have hc1 := lexL_countP a1.data.toList.length 0 a1.data.toList
        have hl1 := list_size a1
        have hc0' : (lexA 0 a0.data.toList).1.length ≤ 4096 := by unfold lexA; omega
        have hc1' : (lexA 0 a1.data.toList).1.length ≤ 4096 := by unfold lexA; omega
        rw [hT0, hT1, hT]
        simp only [trammellaw0_CopyTokens.f, Option.bind_some, if_true]
        rw [if_neg (by decide), if_neg (by decide), if_pos (by simp only [List.length_nil]; omega), Option.bind_some, List.nil_append]
        refine parts_loop a0 (by omega) _ _ (fun t ht => ?_) hc1' (by rw [List.length_append, List.length_map]; omega) (lexA 0 a1.data.toList).1.length 0 K _ rfl (Nat.zero_le _) (by omega) (by omega) (by rw [List.drop_zero])
        obtain ⟨q, h1, h2⟩ := lexL_at _ _ _ t ht
        exact ⟨q, h1, by omega⟩
end Go.Proofs.YtnogfhhfklkbiaaDoor.H
