/- Several texts in one: contracts of functions of the program, and what they lean on. In part written by a program of this session over the kit's print, in part by hand. -/
import Derived.Test.YtppcjlplihiiiaaDoorYParseBlanks8
import Derived.Test.YtppcjlplihiiiaaDoorYParseBlanks5
import Derived.Shelf.Small.Strs
import Derived.Shelf.Utf8.RuneCount
import Derived.Shelf.Strings.Search1
import Derived.Shelf.Strings.Search2
import Derived.Shelf.Strings.Search3
import Derived.Shelf.Strings.Cut
import Derived.Shelf.Strings.Count
import Derived.Shelf.LaysM
import Derived.Shelf.Strings.Shaped
import Derived.Shelf.Strings.Prefix
import Derived.Shelf.Strings.Split
import Derived.Shelf.Strings.SplitShaped
import Derived.Shelf.Unicode.Decode
import Derived.Shelf.Strings.RuneCount
import Derived.Shelf.Strings.Explode
import Derived.Shelf.Unicode.DecodeSlow
import Derived.Shelf.Unicode.DecodeAny
import Derived.Shelf.Slices.Turned
import Derived.Test.YtppcjlplihiiiaaDoorProg
import Derived.Test.YtppcjlplihiiiaaDoorYParseBlanks4
import Derived.Test.YtppcjlplihiiiaaDoorTie
namespace Go.Ev.Bm
open Go Go.Ev.Pm Go.Ev.Lm
set_option linter.unusedVariables false
set_option linter.unusedSimpArgs false
def shT (k : Int) (t : Tk) : Tk := { t with at_ := t.at_ + k }
def strip (x : Nd) : Nd := { x with at_ := 0 }
def PosR (k E E' a a' : Int) : Prop := a' = a + k ∨ (a = E ∧ a' = E')
inductive ErR (k E E' : Int) : Option (Int × Int) → Option (Int × Int) → Prop
  | none : ErR k E E' none none
  | some (c a a' : Int) (h : PosR k E E' a a') : ErR k E E' (some (c, a)) (some (c, a'))
structure RelP (k E E' : Int) (P P' : PS) : Prop where
  toks : P'.toks = P.toks.map (shT k)
  ops : P'.ops = P.ops
  deep : P'.deep = P.deep
  ns : P'.ns.map strip = P.ns.map strip
  err : ErR k E E' P.err P'.err
section
variable {k E E' : Int} {P P' Q Q' : PS}
theorem RelP.len (h : RelP k E E' P P') : P'.ns.length = P.ns.length := by
  have := congrArg List.length h.ns
  simpa using this
theorem RelP.next (h : RelP k E E' P P') : Pm.next P' = (Pm.next P).map (shT k) := by
  unfold Pm.next
  have he := h.err
  cases hp : P.err <;> cases hp' : P'.err <;> rw [hp, hp'] at he <;> cases he
  · dsimp only; rw [h.toks, List.head?_map]
  · rfl
theorem RelP.here (h : RelP k E E' P P') : PosR k E E' (Pm.here E P) (Pm.here E' P') := by
  unfold Pm.here
  rw [h.toks]
  cases P.toks with
  | nil => exact .inr ⟨rfl, rfl⟩
  | cons t r => exact .inl rfl
theorem RelP.is (h : RelP k E E' P P') (s : ByteArray) : Pm.is P' s = Pm.is P s := by
  unfold Pm.is
  rw [h.next]
  cases Pm.next P <;> rfl
theorem RelP.fail (h : RelP k E E' P P') (c : Int) : RelP k E E' (Pm.fail E c P) (Pm.fail E' c P') := by
  unfold Pm.fail
  have he := h.err
  cases hp : P.err <;> cases hp' : P'.err <;> rw [hp, hp'] at he <;> cases he
  · exact ⟨h.toks, h.ops, h.deep, h.ns, .some _ _ _ h.here⟩
  · exact ⟨h.toks, h.ops, h.deep, h.ns, by rw [hp, hp']; exact .some _ _ _ (by assumption)⟩
theorem RelP.drop1 (h : RelP k E E' P P') : RelP k E E' (Pm.drop1 P) (Pm.drop1 P') := ⟨by unfold Pm.drop1; dsimp only; rw [h.toks, List.map_tail], h.ops, h.deep, h.ns, h.err⟩
theorem RelP.must (h : RelP k E E' P P') (s : ByteArray) : RelP k E E' (Pm.must E s P) (Pm.must E' s P') := by
  unfold Pm.must
  rw [h.is s]
  split
  · exact h.drop1
  · exact h.fail _
theorem RelP.take (h : RelP k E E' P P') (s : ByteArray) : RelP k E E' (Pm.take s P).2 (Pm.take s P').2 := by
  unfold Pm.take
  rw [h.is s]
  split
  · exact h.drop1
  · exact h
theorem RelP.name (h : RelP k E E' P P') : (Pm.name E' P').1 = (Pm.name E P).1 ∧ RelP k E E' (Pm.name E P).2 (Pm.name E' P').2 := by
  unfold Pm.name
  rw [h.next]
  cases Pm.next P with
  | none => exact ⟨rfl, h.fail _⟩
  | some t =>
    show (if (shT k t).kind = 0 then _ else _ : ByteArray × PS).1 = _ ∧ _
    simp only [Option.map_some]
    by_cases h0 : t.kind = 0
    · rw [if_pos h0, if_pos (show (shT k t).kind = 0 from h0)]
      exact ⟨rfl, h.drop1⟩
    · rw [if_neg h0, if_neg (show ¬ (shT k t).kind = 0 from h0)]
      exact ⟨rfl, h.fail _⟩
theorem RelP.base (h : RelP k E E' P P') : (Pm.base E' P').1 = (Pm.base E P).1 ∧ RelP k E E' (Pm.base E P).2 (Pm.base E' P').2 := by
  unfold Pm.base
  rw [h.is]
  split
  · exact ⟨rfl, h.drop1⟩
  · exact ⟨rfl, h.must _⟩
theorem RelP.put (h : RelP k E E' P P') {x x' : Nd} (hx : strip x' = strip x) : (Pm.put E' x' P').1 = (Pm.put E x P).1 ∧ RelP k E E' (Pm.put E x P).2 (Pm.put E' x' P').2 := by
  have key : ∀ {Q Q' : PS}, RelP k E E' Q Q' → (match Q'.err with | some _ => ((0 : Int), Q') | none => (Q'.ns.length, { Q' with ns := Q'.ns ++ [x'] })).1 = (match Q.err with | some _ => ((0 : Int), Q) | none => (Q.ns.length, { Q with ns := Q.ns ++ [x] })).1 ∧ RelP k E E' (match Q.err with | some _ => ((0 : Int), Q) | none => (Q.ns.length, { Q with ns := Q.ns ++ [x] })).2 (match Q'.err with | some _ => ((0 : Int), Q') | none => (Q'.ns.length, { Q' with ns := Q'.ns ++ [x'] })).2 := fun {Q Q'} h => by
    have he := h.err
    cases hp : Q.err <;> cases hp' : Q'.err <;> rw [hp, hp'] at he <;> cases he
    · refine ⟨by dsimp only; rw [h.len], ⟨h.toks, h.ops, h.deep, ?_, ?_⟩⟩
      · dsimp only; rw [List.map_append, List.map_append, h.ns]; simp [hx]
      · exact .none
    · exact ⟨rfl, h⟩
  unfold Pm.put
  rw [h.len]
  split
  · exact key (h.fail _)
  · exact key h
theorem RelP.prim (h : RelP k E E' P P') (l : Nat) : Pm.prim l P' = Pm.prim l P := by
  unfold Pm.prim
  split <;> simp only [h.is]
theorem RelP.starts (h : RelP k E E' P P') : Pm.starts P' = Pm.starts P := by
  unfold Pm.starts
  rw [h.next]
  simp only [h.is]
  cases Pm.next P <;> rfl
theorem RelP.pre (h : RelP k E E' P P') : RelP k E E' (Pm.pre E P) (Pm.pre E' P') := by
  unfold Pm.pre
  rw [h.deep]
  split
  · exact h.fail _
  · exact h
def RR (k E E' : Int) : Rs → Rs → Prop
  | none, none => True
  | some (v, Q), some (v', Q') => v' = v ∧ RelP k E E' Q Q'
  | _, _ => False
theorem RR.bind {x y : Rs} {f g : Int → PS → Rs} (h : RR k E E' x y) (hf : ∀ v Q Q', RelP k E E' Q Q' → RR k E E' (f v Q) (g v Q')) : RR k E E' (bindR x f) (bindR y g) := by
  cases x with
  | none => cases y with
    | none => trivial
    | some r => exact h.elim
  | some r => cases y with
    | none => exact h.elim
    | some r' =>
      obtain ⟨v, Q⟩ := r
      obtain ⟨v', Q'⟩ := r'
      obtain ⟨rfl, h2⟩ := h
      exact hf _ _ _ h2
theorem RR.put (h : RelP k E E' P P') {x x' : Nd} (hx : strip x' = strip x) : RR k E E' (some (Pm.put E x P)) (some (Pm.put E' x' P')) := h.put hx
inductive CmR : Cm → Cm → Prop
  | same (c : Cm) (h : ∀ a b, c ≠ .apps a b) : CmR c c
  | apps (p p' a : Int) : CmR (.apps p a) (.apps p' a)
theorem run_rel : ∀ (n : Nat) (c c' : Cm) (P P' : PS), CmR c c' → RelP k E E' P P' → RR k E E' (run E n c P) (run E' n c' P') := by
  intro n
  induction n with
  | zero => intro c c' P P' _ _; cases c <;> cases c' <;> trivial
  | succ n ih =>
    intro c c' P P' hc h
    have inn : ∀ {Q Q' : PS}, RelP k E E' Q Q' → RR k E E' (run E n .inner Q) (run E' n .inner Q') := fun h => ih _ _ _ _ (.same _ (fun _ _ h => by cases h)) h
    have letR : ∀ {p p' : Int} {b : Bool} {Q Q' : PS}, RelP k E E' Q Q' → RR k E E' (letM E (run E n .inner) p b Q) (letM E' (run E' n .inner) p' b Q') := fun {p p' b Q Q'} h => by
      unfold letM
      obtain ⟨e1, h1⟩ := h.name
      have h2 : (if b then Pm.name E' (Pm.name E' Q').2 else (ByteArray.empty, (Pm.name E' Q').2)).1 = (if b then Pm.name E (Pm.name E Q).2 else (ByteArray.empty, (Pm.name E Q).2)).1 ∧ RelP k E E' (if b then Pm.name E (Pm.name E Q).2 else (ByteArray.empty, (Pm.name E Q).2)).2 (if b then Pm.name E' (Pm.name E' Q').2 else (ByteArray.empty, (Pm.name E' Q').2)).2 := by
        split
        · exact h1.name
        · exact ⟨rfl, h1⟩
      refine (inn (h2.2.must _)).bind fun v R R' hR => (inn (hR.must _)).bind fun w S S' hS => RR.put hS ?_
      unfold strip
      dsimp only
      rw [e1, h2.1]
    cases hc with
    | apps p p' a =>
      rw [run, run, h.starts]
      split
      · refine (ih _ _ _ _ (.same _ (fun _ _ h => by cases h)) h).bind fun v R R' hR => ?_
        obtain ⟨e, hp⟩ := hR.put (x := { k := 4, a := a, b := v, at_ := p }) (x' := { k := 4, a := a, b := v, at_ := p' }) rfl
        dsimp only
        rw [e]
        exact ih _ _ _ _ (.apps _ _ _) hp
      · exact ⟨rfl, h⟩
    | same c hn =>
    cases c with
    | apps a b => exact absurd rfl (hn a b)
    | inner =>
      rw [run, run]
      have hp := h.pre
      have he := hp.err
      cases h1 : (Pm.pre E P).err <;> cases h2 : (Pm.pre E' P').err <;> rw [h1, h2] at he <;> cases he
      · dsimp only
        have hR0 : RelP k E E' { toks := (Pm.pre E P).toks, ops := (Pm.pre E P).ops, ns := (Pm.pre E P).ns, err := none, deep := P.deep + 1 } { toks := (Pm.pre E' P').toks, ops := (Pm.pre E' P').ops, ns := (Pm.pre E' P').ns, err := none, deep := P'.deep + 1 } := ⟨hp.toks, hp.ops, by show P'.deep + 1 = P.deep + 1; rw [h.deep], hp.ns, .none⟩
        have hR1 := ih .expr .expr _ _ (.same _ (fun _ _ h => by cases h)) hR0
        refine RR.bind ?_ (fun v R R' hR => (show v = v ∧ RelP k E E' { R with deep := R.deep - 1 } { R' with deep := R'.deep - 1 } from ⟨rfl, hR.toks, hR.ops, by show R'.deep - 1 = R.deep - 1; rw [hR.deep], hR.ns, hR.err⟩))
        first
          | exact hR1
          | (rw [h1, h2]; exact hR1)
      · exact ⟨rfl, hp⟩
    | expr =>
      rw [run, run]
      simp only [h.is]
      split
      · obtain ⟨e1, h1⟩ := h.drop1.name
        exact (inn (h1.must _)).bind fun v R R' hR => RR.put hR (by unfold strip; dsimp only; rw [e1])
      · split
        · simp only [h.drop1.is]
          split
          · exact letR h.drop1.drop1
          · exact letR h.drop1
        · split
          · exact (inn h.drop1).bind fun v R R' hR => (inn (hR.must _)).bind fun w S S' hS => (inn (hS.must _)).bind fun u T T' hT => RR.put hT rfl
          · exact ih _ _ _ _ (.same _ (fun _ _ h => by cases h)) h
    | level l =>
      rw [run, run]
      split
      · exact ih _ _ _ _ (.same _ (fun _ _ h => by cases h)) h
      · exact (ih _ _ _ _ (.same _ (fun _ _ h => by cases h)) h).bind fun v R R' hR => ih _ _ _ _ (.same _ (fun _ _ h => by cases h)) hR
    | more l a =>
      rw [run, run, h.prim]
      cases Pm.prim l P with
      | none => exact ⟨rfl, h⟩
      | some kk =>
        refine (ih _ _ _ _ (.same _ (fun _ _ h => by cases h)) h.drop1).bind fun v R R' hR => ?_
        have hp := hR.put (x := { k := 8, num := kk, a := a, b := v, at_ := Pm.here E P }) (x' := { k := 8, num := kk, a := a, b := v, at_ := Pm.here E' P' }) rfl
        dsimp only
        split
        · exact hp
        · rw [hp.1]
          exact ih _ _ _ _ (.same _ (fun _ _ h => by cases h)) hp.2
    | apply =>
      rw [run, run, h.is]
      split
      · obtain ⟨e1, h1⟩ := h.drop1.name
        refine (ih _ _ _ _ (.same _ (fun _ _ h => by cases h)) h1).bind fun v R R' hR => ?_
        have hp := hR.put (x := { k := 9, nm := (Pm.name E (Pm.drop1 P)).1, a := v, at_ := Pm.here E P }) (x' := { k := 9, nm := (Pm.name E' (Pm.drop1 P')).1, a := v, at_ := Pm.here E' P' }) (by unfold strip; dsimp only; rw [e1])
        dsimp only
        rw [hp.1]
        exact ih _ _ _ _ (.apps _ _ _) hp.2
      · exact (ih _ _ _ _ (.same _ (fun _ _ h => by cases h)) h).bind fun v R R' hR => ih _ _ _ _ (.apps _ _ _) hR
    | atom =>
      rw [run, run, h.starts]
      split
      · rw [h.next]
        cases hnx : Pm.next P with
        | none => exact ⟨rfl, h.fail _⟩
        | some t =>
          dsimp only [Option.map_some]
          by_cases h0 : t.kind = 0
          · rw [if_pos h0, if_pos (show (shT k t).kind = 0 from h0)]
            obtain ⟨e1, h1⟩ := h.name
            exact RR.put h1 (by unfold strip; dsimp only; rw [e1])
          · rw [if_neg h0, if_neg (show ¬ (shT k t).kind = 0 from h0)]
            by_cases h1 : t.kind = 1
            · rw [if_pos h1, if_pos (show (shT k t).kind = 1 from h1)]
              exact RR.put h.drop1 rfl
            · rw [if_neg h1, if_neg (show ¬ (shT k t).kind = 1 from h1)]
              simp only [h.is]
              split
              · exact (inn h.drop1).bind fun v R R' hR => ⟨rfl, hR.must _⟩
              · split
                · have hh : ∀ {p p' : Int} {Q Q' : PS}, RelP k E E' Q Q' → (match handleM E (run E n .inner) p Q, handleM E' (run E' n .inner) p' Q' with
                      | none, none => True
                      | some (x, S), some (x', S') => strip x' = strip x ∧ RelP k E E' S S'
                      | _, _ => False) := fun {p p' Q Q'} h => by
                    unfold handleM
                    have hi := inn h
                    cases r1 : run E n .inner Q with
                    | none => cases r2 : run E' n .inner Q' with
                      | none => trivial
                      | some z => rw [r1, r2] at hi; exact hi.elim
                    | some z => cases r2 : run E' n .inner Q' with
                      | none => rw [r1, r2] at hi; exact hi.elim
                      | some z' =>
                        obtain ⟨a, A⟩ := z
                        obtain ⟨a', A'⟩ := z'
                        rw [r1, r2] at hi
                        obtain ⟨rfl, hA⟩ := hi
                        dsimp only
                        obtain ⟨eq1, q1⟩ := (hA.must kwith).name
                        obtain ⟨eq2, q2⟩ := q1.name
                        obtain ⟨eq3, q3⟩ := q2.name
                        have hj := inn (q3.must karrow)
                        cases s1 : run E n .inner (Pm.must E karrow (Pm.name E (Pm.name E (Pm.name E (Pm.must E kwith A)).2).2).2) with
                        | none => cases s2 : run E' n .inner (Pm.must E' karrow (Pm.name E' (Pm.name E' (Pm.name E' (Pm.must E' kwith A')).2).2).2) with
                          | none => trivial
                          | some z => rw [s1, s2] at hj; exact hj.elim
                        | some z => cases s2 : run E' n .inner (Pm.must E' karrow (Pm.name E' (Pm.name E' (Pm.name E' (Pm.must E' kwith A')).2).2).2) with
                          | none => rw [s1, s2] at hj; exact hj.elim
                          | some z' =>
                            obtain ⟨b, B⟩ := z
                            obtain ⟨b', B'⟩ := z'
                            rw [s1, s2] at hj
                            obtain ⟨rfl, hB⟩ := hj
                            dsimp only
                            obtain ⟨eq4, q4⟩ := (hB.must kreturn).name
                            have hk := inn (q4.must karrow)
                            cases t1 : run E n .inner (Pm.must E karrow (Pm.name E (Pm.must E kreturn B)).2) with
                            | none => cases t2 : run E' n .inner (Pm.must E' karrow (Pm.name E' (Pm.must E' kreturn B')).2) with
                              | none => trivial
                              | some z => rw [t1, t2] at hk; exact hk.elim
                            | some z => cases t2 : run E' n .inner (Pm.must E' karrow (Pm.name E' (Pm.must E' kreturn B')).2) with
                              | none => rw [t1, t2] at hk; exact hk.elim
                              | some z' =>
                                obtain ⟨c, C⟩ := z
                                obtain ⟨c', C'⟩ := z'
                                rw [t1, t2] at hk
                                obtain ⟨rfl, hC⟩ := hk
                                dsimp only
                                refine ⟨?_, hC.must _⟩
                                unfold strip
                                dsimp only
                                rw [eq1, eq2, eq3, eq4]
                  have := hh (p := Pm.here E P) (p' := Pm.here E' P') h.drop1
                  cases r1 : handleM E (run E n .inner) (Pm.here E P) (Pm.drop1 P) with
                  | none => cases r2 : handleM E' (run E' n .inner) (Pm.here E' P') (Pm.drop1 P') with
                    | none => trivial
                    | some z => rw [r1, r2] at this; exact this.elim
                  | some z => cases r2 : handleM E' (run E' n .inner) (Pm.here E' P') (Pm.drop1 P') with
                    | none => rw [r1, r2] at this; exact this.elim
                    | some z' =>
                      obtain ⟨x, S⟩ := z
                      obtain ⟨x', S'⟩ := z'
                      rw [r1, r2] at this
                      exact RR.put this.2 this.1
                · split
                  · exact RR.put h.drop1 rfl
                  · exact RR.put (h.take _) rfl
      · exact ⟨rfl, h.fail _⟩
end
end Go.Ev.Bm

namespace Go.Ev.Bm
open Go Go.Ev.Pm Go.Ev.Lm
set_option linter.unusedVariables false
set_option linter.unusedSimpArgs false
section
variable {k E E' : Int} {P P' Q Q' : PS}
theorem opM_rel (h : RelP k E E' P P') : RelP k E E' (opM E P) (opM E' P') := by
  unfold opM
  rw [h.ops]
  split
  · exact h.fail _
  · obtain ⟨e1, h1⟩ := (h.must kop).name
    obtain ⟨e2, h2⟩ := (h1.must kcolon).base
    obtain ⟨e3, h3⟩ := (h2.must karrow).base
    have h4 := h3.must ksemi
    dsimp only
    rw [e1, e2, e3]
    exact ⟨h4.toks, by dsimp only; rw [h4.ops], h4.deep, h4.ns, h4.err⟩
theorem opsM_rel : ∀ (n : Nat) {P P' : PS}, RelP k E E' P P' → RelP k E E' (opsM E n P) (opsM E' n P') := by
  intro n
  induction n with
  | zero => exact fun h => h
  | succ n ih =>
    intro P P' h
    simp only [opsM]
    rw [h.is]
    split
    · exact ih (opM_rel h)
    · exact h
theorem endM_rel (h : RelP k E E' P P') : RelP k E E' (endM E P) (endM E' P') := by
  unfold endM
  rw [h.next]
  cases Pm.next P with
  | none => exact h
  | some t => exact h.fail _
def PRR (k E E' : Int) : PR → PR → Prop
  | .err a c, .err a' c' => c' = c ∧ PosR k E E' a a'
  | .ok o n, .ok o' n' => o' = o ∧ n'.map strip = n.map strip
  | _, _ => False
theorem parse_rel (ts : List Tk) : PRR k E E' (parseM E ts) (parseM E' (ts.map (shT k))) := by
  have h0 : RelP k E E' { toks := ts } { toks := ts.map (shT k) } := ⟨rfl, rfl, rfl, rfl, .none⟩
  have hP : RelP k E E' (parseP E ts) (parseP E' (ts.map (shT k))) := by
    unfold parseP
    rw [List.length_map]
    have h1 := opsM_rel (ts.length + 1) h0
    have hf : fuelOf (ts.map (shT k)) = fuelOf ts := by unfold fuelOf; rw [List.length_map]
    rw [hf]
    dsimp only
    have h2 := run_rel (fuelOf ts) .inner .inner _ _ (.same _ (fun _ _ h => by cases h)) h1
    cases r1 : run E (fuelOf ts) .inner (opsM E (ts.length + 1) { toks := ts }) with
    | none => cases r2 : run E' (fuelOf ts) .inner (opsM E' (ts.length + 1) { toks := ts.map (shT k) }) with
      | none => exact h1
      | some z => rw [r1, r2] at h2; exact h2.elim
    | some z => cases r2 : run E' (fuelOf ts) .inner (opsM E' (ts.length + 1) { toks := ts.map (shT k) }) with
      | none => rw [r1, r2] at h2; exact h2.elim
      | some z' =>
        obtain ⟨v, Q⟩ := z
        obtain ⟨v', Q'⟩ := z'
        rw [r1, r2] at h2
        exact endM_rel h2.2
  unfold parseM
  have he := hP.err
  cases r1 : (parseP E ts).err with
  | none => cases r2 : (parseP E' (ts.map (shT k))).err with
    | none => exact ⟨hP.ops, hP.ns⟩
    | some z => rw [r1, r2] at he; cases he
  | some z => cases r2 : (parseP E' (ts.map (shT k))).err with
    | none => rw [r1, r2] at he; cases he
    | some z' =>
      rw [r1, r2] at he
      cases he
      exact ⟨rfl, by assumption⟩
end
def LR.sh (k : Nat) : LR → LR
  | .err a c => .err (a + k) c
  | .ok ts => .ok (ts.map (shT k))
theorem sh_add (k : Nat) (t : Tk) (r : LR) : LR.sh k (r.add t) = (LR.sh k r).add (shT k t) := by cases r <;> rfl
theorem lex_sh (k : Nat) : ∀ (f p : Nat) (l : List UInt8), lexM f (p + k) l = LR.sh k (lexM f p l) := by
  intro f
  induction f with
  | zero => intro p l; rfl
  | succ f ih =>
    intro p l
    cases l with
    | nil => rfl
    | cons c r =>
      simp only [lexM]
      split
      · rw [show p + k + 1 = p + 1 + k by omega]; exact ih _ _
      · split
        · rw [show p + k + cutN (c :: r) = p + cutN (c :: r) + k by omega]; exact ih _ _
        · cases tokM (c :: r) with
          | err e => rfl
          | ok kd s num n =>
            dsimp only
            rw [show p + k + n = p + n + k by omega, ih, sh_add]
            congr 1
theorem tokM_n {l : List UInt8} {k : Int} {s : List UInt8} {num : Int} {n : Nat} (h1 : l ≠ []) (h : tokM l = .ok k s num n) : 1 ≤ n ∧ n ≤ l.length := by
  have hw : (l.takeWhile isMore).length ≤ l.length := (List.takeWhile_sublist _).length_le
  have hs : ∀ {k s num n}, sgnM l = .ok k s num n → 1 ≤ n ∧ n ≤ l.length := fun {k s num n} h => by
    unfold sgnM at h
    split at h
    · cases h
    · rename_i c r
      split at h
      · split at h
        · rename_i hp
          cases h
          refine ⟨by omega, ?_⟩
          simp only [Bool.or_eq_true, hasP, beq_iff_eq] at hp
          rcases hp with hp | hp <;> (have := congrArg List.length hp; simp at this; simp; omega)
        · cases h; simp
      · cases h
  unfold tokM at h
  split at h
  · exact hs h
  · rename_i c w hcw
    rw [hcw] at hw
    simp only [List.length_cons] at hw
    split at h
    · exact hs h
    · split at h
      · split at h
        · cases h; omega
        · cases h
      · split at h
        · cases h; omega
        · split at h
          · cases h; omega
          · cases h
theorem cut_le' (l : List UInt8) : cutN l ≤ l.length := (List.takeWhile_sublist _).length_le
theorem lexM_fuel : ∀ (f g p : Nat) (l : List UInt8), l.length ≤ f → l.length ≤ g → lexM f p l = lexM g p l := by
  intro f
  induction f with
  | zero =>
    intro g p l hf _
    have : l = [] := List.eq_nil_of_length_eq_zero (by omega)
    subst this
    cases g <;> rfl
  | succ f ih =>
    intro g p l hf hg
    cases l with
    | nil => cases g <;> rfl
    | cons c r =>
      obtain ⟨g, rfl⟩ : ∃ k, g = k + 1 := ⟨g - 1, by simp at hg; omega⟩
      simp at hf hg
      simp only [lexM]
      split
      · exact ih _ _ _ (by omega) (by omega)
      · split
        · rename_i h35
          have h1 : 1 ≤ cutN (c :: r) := by
            unfold cutN
            rw [List.takeWhile_cons, if_pos (by rw [h35]; decide)]
            simp
          exact ih _ _ _ (by rw [List.length_drop]; simp; omega) (by rw [List.length_drop]; simp; omega)
        · cases ht : tokM (c :: r) with
          | err e => rfl
          | ok kd s num n =>
            dsimp only
            have := tokM_n (by simp) ht
            rw [ih g _ _ (by rw [List.length_drop]; simp; omega) (by rw [List.length_drop]; simp; omega)]
theorem tw_behind (q : UInt8 → Bool) (hq : q 10 = false) (x : List UInt8) : ∀ s : List UInt8, (s ++ 10 :: x).takeWhile q = s.takeWhile q := by
  intro s
  induction s with
  | nil => rw [List.nil_append, List.takeWhile_cons, hq]; rfl
  | cons c r ih => rw [List.cons_append, List.takeWhile_cons, List.takeWhile_cons, ih]
theorem cut_behind (s x : List UInt8) : cutN (s ++ 10 :: x) = cutN s := by unfold cutN; rw [tw_behind _ (by decide)]
theorem hasP_behind {a b : UInt8} (hb : b ≠ 10) (s x : List UInt8) (h1 : s ≠ []) : hasP [a, b] (s ++ 10 :: x) = hasP [a, b] s := by
  match s, h1 with
  | [c], _ =>
    unfold hasP
    show ([c, 10] == [a, b]) = ([c] == [a, b])
    have : ¬ (10 : UInt8) = b := fun e => hb e.symm
    simp [this]
  | c :: d :: r, _ => rfl
theorem tokM_behind (s x : List UInt8) (h1 : s ≠ []) : tokM (s ++ 10 :: x) = tokM s := by
  have hs : sgnM (s ++ 10 :: x) = sgnM s := by
    cases s with
    | nil => exact absurd rfl h1
    | cons c r =>
      have e1 := hasP_behind (a := 45) (b := 62) (by decide) (c :: r) x (by simp)
      have e2 := hasP_behind (a := 61) (b := 61) (by decide) (c :: r) x (by simp)
      show (if isSign c then (if hasP [45, 62] ((c :: r) ++ 10 :: x) || hasP [61, 61] ((c :: r) ++ 10 :: x) then TR.ok 3 (((c :: r) ++ 10 :: x).take 2) 0 2 else TR.ok 3 (((c :: r) ++ 10 :: x).take 1) 0 1) else .err 201) = (if isSign c then (if hasP [45, 62] (c :: r) || hasP [61, 61] (c :: r) then TR.ok 3 ((c :: r).take 2) 0 2 else TR.ok 3 ((c :: r).take 1) 0 1) else .err 201)
      rw [e1, e2]
      split
      · split
        · rename_i hp
          have hl : 2 ≤ (c :: r).length := by
            simp only [Bool.or_eq_true, hasP, beq_iff_eq] at hp
            rcases hp with hp | hp <;> (have := congrArg List.length hp; simp at this; simp; omega)
          rw [List.take_append_of_le_length hl]
        · rw [List.take_append_of_le_length (by simp)]
      · rfl
  unfold tokM
  rw [tw_behind _ (by decide), hs]
theorem lex_behind (x : List UInt8) (hx : ∀ p, lexM (x.length + 1) p (10 :: x) = .ok []) : ∀ (f : Nat) (s : List UInt8) (g p : Nat), s.length ≤ f → s.length + x.length + 1 ≤ g → lexM g p (s ++ 10 :: x) = lexM f p s := by
  intro f
  induction f with
  | zero =>
    intro s g p hf hg
    have : s = [] := List.eq_nil_of_length_eq_zero (by omega)
    subst this
    rw [List.nil_append, lexM_fuel g (x.length + 1) p _ (by simp at hg ⊢; omega) (by simp), hx]
    rfl
  | succ f ih =>
    intro s g p hf hg
    cases s with
    | nil => rw [List.nil_append, lexM_fuel g (x.length + 1) p _ (by simp at hg ⊢; omega) (by simp), hx]; rfl
    | cons c r =>
      obtain ⟨g, rfl⟩ : ∃ k, g = k + 1 := ⟨g - 1, by simp at hg; omega⟩
      simp at hf hg
      have ht := tokM_behind (c :: r) x (by simp)
      have hc := cut_behind (c :: r) x
      rw [List.cons_append] at ht hc ⊢
      simp only [lexM]
      rw [ht, hc]
      split
      · exact ih _ _ _ hf (by omega)
      · split
        · rename_i h35
          have h1 : 1 ≤ cutN (c :: r) := by
            unfold cutN
            rw [List.takeWhile_cons, if_pos (by rw [h35]; decide)]
            simp
          have h2 := cut_le' (c :: r)
          rw [← List.cons_append, List.drop_append_of_le_length h2]
          simp at h2
          exact ih _ _ _ (by rw [List.length_drop]; simp; omega) (by rw [List.length_drop]; simp; omega)
        · cases htk : tokM (c :: r) with
          | err e => rfl
          | ok kd s num n =>
            dsimp only
            have hn := tokM_n (by simp) htk
            rw [← List.cons_append, List.drop_append_of_le_length hn.2, ih _ _ _ (by rw [List.length_drop]; simp; omega) (by rw [List.length_drop]; simp; omega)]
end Go.Ev.Bm

namespace Go.Ev.Bm
open Go Go.Ev.Pm Go.Ev.Lm
set_option linter.unusedVariables false
set_option linter.unusedSimpArgs false
theorem lead_lo (b : Nat) : ∀ n lo hi, leadM b = (n, lo, hi) → 2 ≤ n → 128 ≤ lo := by
  intro n lo hi h hn
  unfold leadM at h
  repeat' split at h
  all_goals (cases h; omega)
theorem lead_n (b : Nat) : (leadM b).1 = 0 ∨ (leadM b).1 = 1 ∨ (leadM b).1 = 2 ∨ (leadM b).1 = 3 ∨ (leadM b).1 = 4 := by
  unfold leadM; repeat' split
  all_goals simp
theorem widM_behind (s x : List UInt8) (h1 : s ≠ []) : widM (s ++ 10 :: x) = widM s := by
  cases s with
  | nil => exact absurd rfl h1
  | cons b r =>
    rw [List.cons_append]
    obtain ⟨n, lo, hi, hl⟩ : ∃ n lo hi, leadM b.toNat = (n, lo, hi) := ⟨_, _, _, rfl⟩
    have hn := lead_n b.toNat
    rw [hl] at hn
    have t10 : tailM 10 = false := by decide
    rcases hn with hn | hn | hn | hn | hn <;> dsimp only at hn <;> subst hn
    · simp [widM, hl]
    · simp [widM, hl]
    · have hlo := lead_lo _ _ _ _ hl (by omega)
      have s10 : secM lo hi 10 = false := by
        unfold secM
        rw [show (10 : UInt8).toNat = 10 from rfl, decide_eq_false (by omega), Bool.false_and]
      cases r with
      | nil => simp [widM, hl, s10]
      | cons c r => simp [widM, hl]
    · have hlo := lead_lo _ _ _ _ hl (by omega)
      have s10 : secM lo hi 10 = false := by
        unfold secM
        rw [show (10 : UInt8).toNat = 10 from rfl, decide_eq_false (by omega), Bool.false_and]
      match r with
      | [] => cases x with
        | nil => simp [widM, hl]
        | cons d x => simp [widM, hl, s10]
      | [c] => simp [widM, hl, t10]
      | c :: d :: r => simp [widM, hl]
    · have hlo := lead_lo _ _ _ _ hl (by omega)
      have s10 : secM lo hi 10 = false := by
        unfold secM
        rw [show (10 : UInt8).toNat = 10 from rfl, decide_eq_false (by omega), Bool.false_and]
      match r with
      | [] => match x with
        | [] => simp [widM, hl]
        | [d] => simp [widM, hl]
        | d :: e :: x => simp [widM, hl, s10]
      | [c] => cases x with
        | nil => simp [widM, hl]
        | cons d x => simp [widM, hl, t10]
      | [c, d] => simp [widM, hl, t10]
      | c :: d :: e :: r => simp [widM, hl]
theorem widM_le (l : List UInt8) : widM l ≤ l.length := by
  unfold widM
  split
  · exact Nat.zero_le _
  · split
    · simp
    · split
      · split <;> simp
      · exact Nat.zero_le _
    · split
      · split <;> simp
      · exact Nat.zero_le _
    · split
      · split <;> simp
      · exact Nat.zero_le _
    · exact Nat.zero_le _
theorem badM_fuel : ∀ (f g p : Nat) (l : List UInt8), l.length ≤ f → l.length ≤ g → badM f p l = badM g p l := by
  intro f
  induction f with
  | zero =>
    intro g p l hf _
    have : l = [] := List.eq_nil_of_length_eq_zero (by omega)
    subst this
    cases g <;> rfl
  | succ f ih =>
    intro g p l hf hg
    cases l with
    | nil => cases g <;> rfl
    | cons c r =>
      obtain ⟨g, rfl⟩ : ∃ k, g = k + 1 := ⟨g - 1, by simp at hg; omega⟩
      simp only [badM]
      split
      · rfl
      · rename_i h0
        have : ((c :: r).drop (widM (c :: r))).length ≤ r.length := by rw [List.length_drop]; simp; omega
        simp at hf hg
        exact ih _ _ _ (by omega) (by omega)
theorem bad_sh (k : Nat) : ∀ (f p : Nat) (l : List UInt8), badM f (p + k) l = (badM f p l).map (· + k) := by
  intro f
  induction f with
  | zero => intro p l; rfl
  | succ f ih =>
    intro p l
    cases l with
    | nil => rfl
    | cons c r =>
      simp only [badM]
      split
      · rfl
      · rw [show p + k + widM (c :: r) = p + widM (c :: r) + k by omega]; exact ih _ _
def asc (l : List UInt8) : Bool := l.all fun c => decide (c.toNat < 128)
theorem wid_asc {c : UInt8} {r : List UInt8} (h : c.toNat < 128) : widM (c :: r) = 1 := by simp [widM, leadM, h]
theorem bad_ahead : ∀ (a : List UInt8) (f p : Nat) (l : List UInt8), asc a = true → badM (f + a.length) p (a ++ l) = badM f (p + a.length) l := by
  intro a
  induction a with
  | nil => intro f p l _; rfl
  | cons c r ih =>
    intro f p l h
    unfold asc at h
    simp only [List.all_cons, Bool.and_eq_true, decide_eq_true_eq] at h
    have hw : widM (c :: (r ++ l)) = 1 := wid_asc h.1
    rw [List.cons_append, List.length_cons, show f + (r.length + 1) = (f + r.length) + 1 by omega]
    simp only [badM]
    rw [hw, if_neg (by decide)]
    show badM (f + r.length) (p + 1) (r ++ l) = _
    rw [ih _ _ _ h.2, show p + 1 + r.length = p + (r.length + 1) by omega]
theorem bad_asc : ∀ (f p : Nat) (l : List UInt8), asc l = true → badM f p l = none := by
  intro f
  induction f with
  | zero => intro p l _; rfl
  | succ f ih =>
    intro p l h
    cases l with
    | nil => rfl
    | cons c r =>
      unfold asc at h
      simp only [List.all_cons, Bool.and_eq_true, decide_eq_true_eq] at h
      simp only [badM]
      rw [wid_asc h.1, if_neg (by decide)]
      exact ih _ _ h.2
theorem bad_behind (x : List UInt8) (hx : asc x = true) : ∀ (f : Nat) (s : List UInt8) (g p : Nat), s.length ≤ f → s.length + x.length + 1 ≤ g → badM g p (s ++ 10 :: x) = badM f p s := by
  have hx' : asc (10 :: x) = true := by unfold asc at hx ⊢; rw [List.all_cons, hx]; rfl
  intro f
  induction f with
  | zero =>
    intro s g p hf hg
    have : s = [] := List.eq_nil_of_length_eq_zero (by omega)
    subst this
    rw [List.nil_append, bad_asc _ _ _ hx']
    rfl
  | succ f ih =>
    intro s g p hf hg
    cases s with
    | nil => rw [List.nil_append, bad_asc _ _ _ hx']; rfl
    | cons c r =>
      obtain ⟨g, rfl⟩ : ∃ k, g = k + 1 := ⟨g - 1, by simp at hg; omega⟩
      have hw := widM_behind (c :: r) x (by simp)
      have hle := widM_le (c :: r)
      rw [List.cons_append] at hw ⊢
      simp only [badM]
      rw [hw]
      split
      · rfl
      · rw [← List.cons_append, List.drop_append_of_le_length hle]
        simp at hf hg hle
        exact ih _ _ _ (by rw [List.length_drop]; simp; omega) (by rw [List.length_drop]; simp; omega)
def Skip (a : List UInt8) : Prop := ∀ f p l, l.length ≤ f → lexM (f + a.length) p (a ++ l) = lexM f (p + a.length) l
theorem lex_blank (f p : Nat) {c : UInt8} (l : List UInt8) (h : isBlank c = true) : lexM (f + 1) p (c :: l) = lexM f (p + 1) l := by
  simp only [lexM]
  rw [if_pos h]
theorem lex_remark (f p : Nat) (l : List UInt8) : lexM (f + 1) p (35 :: l) = lexM f (p + cutN (35 :: l)) ((35 :: l).drop (cutN (35 :: l))) := by
  simp only [lexM]
  rw [if_neg (show ¬ isBlank 35 = true by decide), if_pos trivial]
theorem skip_end {a : List UInt8} (h : Skip a) (p : Nat) : lexM (a.length + 1) p (10 :: a) = .ok [] := by
  rw [lex_blank _ _ _ rfl]
  have := h 0 (p + 1) [] (Nat.le_refl _)
  rw [List.append_nil, Nat.zero_add] at this
  rw [this]; rfl
theorem lexT_around {a : List UInt8} (ha : Skip a) (hasc : asc a = true) (s : List UInt8) (hl : (a ++ (s ++ 10 :: a)).length ≤ 4096) : lexT (a ++ (s ++ 10 :: a)) = LR.sh a.length (lexT s) := by
  have hlen : (a ++ (s ++ 10 :: a)).length = s.length + a.length + 1 + a.length := by simp; omega
  have hs : ¬ 4096 < s.length := by omega
  unfold lexT
  rw [if_neg (by omega), if_neg hs, hlen, bad_ahead a _ _ _ hasc, Nat.zero_add, bad_behind a hasc s.length s _ _ (Nat.le_refl _) (by omega)]
  have e := bad_sh a.length s.length 0 s
  rw [Nat.zero_add] at e
  rw [e]
  cases badM s.length 0 s with
  | some i => rfl
  | none =>
    show lexM _ _ _ = LR.sh _ (lexM _ _ _)
    rw [ha _ _ _ (by simp; omega), Nat.zero_add, lex_behind a (skip_end ha) s.length s _ _ (Nat.le_refl _) (by omega)]
    have e := lex_sh a.length s.length 0 s
    rw [Nat.zero_add] at e
    exact e
def ahead : Nat → List UInt8
  | 0 => [32]
  | 1 => [10, 9]
  | 2 => [35, 32, 97, 32, 114, 101, 109, 97, 114, 107, 32, 40, 10]
  | _ => [10, 10, 32, 32]
theorem ahead_asc (w : Nat) : asc (ahead w) = true := by unfold ahead; split <;> decide
theorem ahead_skip (w : Nat) : Skip (ahead w) := by
  intro f p l hl
  unfold ahead
  split
  · exact lex_blank f p l rfl
  · show lexM (f + 1 + 1) p (10 :: 9 :: l) = _
    rw [lex_blank _ _ _ rfl, lex_blank _ _ _ rfl]
    rfl
  · have hc : cutN ([35, 32, 97, 32, 114, 101, 109, 97, 114, 107, 32, 40, 10] ++ l) = 12 := by
      unfold cutN
      rfl
    show lexM (f + 12 + 1) p (35 :: ([32, 97, 32, 114, 101, 109, 97, 114, 107, 32, 40, 10] ++ l)) = _
    have hc' : cutN (35 :: ([32, 97, 32, 114, 101, 109, 97, 114, 107, 32, 40, 10] ++ l)) = 12 := hc
    rw [lex_remark, hc']
    show lexM (f + 11 + 1) (p + 12) (10 :: l) = _
    rw [lex_blank _ _ _ rfl]
    exact lexM_fuel _ _ _ _ (by omega) hl
  · show lexM (f + 1 + 1 + 1 + 1) p (10 :: 10 :: 32 :: 32 :: l) = _
    rw [lex_blank _ _ _ rfl, lex_blank _ _ _ rfl, lex_blank _ _ _ rfl, lex_blank _ _ _ rfl]
    rfl
def parseT (l : List UInt8) : PR := match lexT l with
  | .err a _ => .err a 400
  | .ok ts => parseM l.length ts
theorem parse_around (w : Nat) (s : List UInt8) (hl : (ahead w ++ (s ++ 10 :: ahead w)).length ≤ 4096) :
    PRR (ahead w).length s.length (ahead w ++ (s ++ 10 :: ahead w)).length (parseT s) (parseT (ahead w ++ (s ++ 10 :: ahead w))) := by
  unfold parseT
  rw [lexT_around (ahead_skip w) (ahead_asc w) s hl]
  cases lexT s with
  | err a c => exact ⟨rfl, .inl rfl⟩
  | ok ts => exact parse_rel ts
end Go.Ev.Bm

namespace Go.Proofs.YtppcjlplihiiiaaDoor.Sy
open Go Go.Ev Go.Ev.Pm Go.Ev.Lm Go.Ev.Bm
set_option linter.unusedVariables false
set_option linter.unusedSimpArgs false
set_option linter.unusedSectionVars false
instance : HasB Tryd.prog 18 := ⟨by kernel_rfl⟩
instance : EqT Tryd.prog 38 [(3, 0), (3, 1), (3, 2), (3, 3), (3, 4), (9, 5), (9, 6), (9, 7), (9, 8), (3, 9)] := ⟨by kernel_rfl⟩
instance : EqT Tryd.prog 36 [(9, 0), (3, 1), (3, 2)] := ⟨by kernel_rfl⟩
theorem num_spec {xb : XB} {ext : CallF} (hn : ∀ (f : Nat) (a : List V) (m : Mem), f ∉ XS → ext f a m = none) (m : Mem) (a : Int) : Ev Tryd.prog xb ext 6 [.int .i64 a] m (.int .i64 a) m := by
  refine ev_val ?_
  refine ev_of (fun m => hn _ _ m (by decide)) Tryd.func6 rfl rfl ?_
  refine wc_seq (wc_region (wa rfl rfl (wo_nil (thenW_n (wc_seq (wc_region (wm rfl rfl (wa rfl rfl (wo_nil ?_)))))))))
  refine thenW_n (wc_ret ?_)
  refine endW_ret rfl rfl ?_
  exact ⟨rfl, rfl⟩
theorem ndC_strip {x y : Nd} (h : strip y = strip x) : ndC { y with at_ := 0 } = ndC { x with at_ := 0 } := congrArg ndC h
section
variable {m : Mem} {xb : XB} {ext : CallF} (hL : LH xb ext)
include hL
theorem same1_spec (x y : Nd) (h : strip y = strip x) : ∃ m', Ev Tryd.prog xb ext 18 [.agg (ndC x), .agg (ndC y)] m (.bool true) m' ∧ Fr F0 m m' := by
  refine ev_to ?_
  have he := ndC_strip h
  refine ev_of (fun m => hL.no _ _ m (by decide)) Tryd.func18 rfl rfl ?_
  refine wc_seq (wc_region ?_)
  refine wo_box rfl rfl rfl rfl rfl ?_
  intro g1 m1 o1 f1 l1
  have a1 := o1
  have fa := f1
  refine wo_box rfl rfl rfl rfl rfl ?_
  intro g2 m2 o2 f2 l2
  have a2 := a1.fr f2 (fun h => h)
  have b2 := o2
  have fb := f2
  refine wa rfl rfl (wo_nil (thenW_n (wc_seq (wc_region (wf rfl rfl ?_)))))
  refine wo_store rfl rfl rfl rfl (by assumption) rfl rfl (Nat.le_of_ble_eq_true rfl) rfl ?_
  intro m3 o3 f3 n3
  have a3 : Blok m3 g1 38 (ndC { x with at_ := 0 }) := o3
  have fc := f3
  have b3 := b2.fr f3 (fun e => by have h1 := a1.lt; have e1 : g2 = g1 := e; omega)
  refine wf rfl rfl ?_
  refine wo_store rfl rfl rfl rfl (by assumption) rfl rfl (Nat.le_of_ble_eq_true rfl) rfl ?_
  intro m4 o4 f4 n4
  have b4 : Blok m4 g2 38 (ndC { y with at_ := 0 }) := o4
  have fd := f4
  have a4 := a3.fr f4 (fun e => by have h1 := a1.lt; have e1 : g1 = g2 := e; omega)
  have x5 := a4.rowAll (n := 10) rfl
  have y5 : m4.row g2 0 10 = some (ndC { x with at_ := 0 }) := by rw [← he]; exact b4.rowAll rfl
  refine wo_nil (thenW_n (wc_seq (wc_region ?_)))
  refine wo_m rfl (mv_loadA rfl rfl (by assumption)) rfl rfl ?_
  refine wo_m rfl (mv_loadA rfl rfl (by assumption)) rfl rfl ?_
  refine wo_n rfl (nv_eqlA rfl rfl rfl (by kernel_rfl)) rfl rfl (wa rfl rfl (wo_nil (thenW_n (wc_ret ?_))))
  refine endW_ret rfl rfl ?_
  refine ⟨rfl, ⟨fun w => fd.nw (fc.nw (fb.nw (fa.nw w))), fd.gl.trans (fc.gl.trans (fb.gl.trans fa.gl)), by have h1 := fa.le; have h2 := fb.le; have h3 := fc.le; have h4 := fd.le; omega, fun q hq _ => ?_⟩⟩
  have q1 := fa.eq q hq (fun h => h)
  have hq1 := Nat.lt_of_lt_of_le hq fa.le
  have q2 := fb.eq q hq1 (fun h => h)
  have hq2 := Nat.lt_of_lt_of_le hq1 fb.le
  have q3 := fc.eq q hq2 (fun e => by have e1 : q = g1 := e; omega)
  have hq3 := Nat.lt_of_lt_of_le hq2 fc.le
  have q4 := fd.eq q hq3 (fun e => by have e1 : q = g2 := e; omega)
  exact ⟨q4.1.trans (q3.1.trans (q2.1.trans q1.1)), q4.2.trans (q3.2.trans (q2.2.trans q1.2))⟩
omit hL in
theorem flat_part {α : Type} {k : Nat} {f : α → List V} (hf : ∀ t, (f t).length = k) : ∀ (ts : List α) (i : Nat) (t : α), ts[i]? = some t → ((ts.flatMap f).drop (i * k)).take k = f t := by
  intro ts
  induction ts with
  | nil => intro i t h; simp at h
  | cons a r ih =>
    intro i t h
    rw [List.flatMap_cons]
    cases i with
    | zero =>
      simp at h
      subst h
      rw [Nat.zero_mul, List.drop_zero, List.take_append_of_le_length (by rw [hf]; omega), List.take_of_length_le (by rw [hf]; omega)]
    | succ i =>
      rw [show (i + 1) * k = (f a).length + i * k by rw [hf, Nat.add_mul]; omega, List.drop_append]
      rw [List.drop_of_length_le (by omega), List.nil_append, show (f a).length + i * k - (f a).length = i * k by omega]
      exact ih i t (by simpa using h)
omit hL in
theorem row_at {α : Type} {k : Nat} {f : α → List V} (hf : ∀ t, (f t).length = k) {own : Nat → Prop} {el q n : Nat} {ts : List α} (h : RowR m own el k (.sl q 0 n n k) (ts.flatMap f) n) {i : Nat} {t : α} (hi : ts[i]? = some t) : m.row q (0 + i * k) k = some (f t) := by
  have hlt : i < ts.length := (List.getElem?_eq_some_iff.1 hi).1
  have hlen : (ts.flatMap f).length = ts.length * k := flat_len hf ts
  have hpart := flat_part hf ts i t hi
  generalize hv : V.sl q 0 n n k = v at h
  generalize hcs : ts.flatMap f = cs at h hlen hpart
  cases h with
  | nil => cases hv
  | sl q' n' cs hg hl =>
    cases hv
    rw [Nat.zero_add, hg.row (by rw [hlen]; calc i * k + k = (i + 1) * k := by rw [Nat.add_mul]; omega
      _ ≤ ts.length * k := Nat.mul_le_mul_right k hlt), hpart]
theorem equal_spec {own own' : Nat → Prop} {v v' : V} {ns ns' : List Nd} (hr : RowR m own 38 10 v (ns.flatMap ndC) ns.length) (hr' : RowR m own' 38 10 v' (ns'.flatMap ndC) ns'.length) (hs : ns'.map strip = ns.map strip) (hlt : ∀ x, own x → x < m.next) (hlt' : ∀ x, own' x → x < m.next) (h512 : ns.length ≤ 512) :
    ∃ m', Ev Tryd.prog xb ext 17 [v, v', .fn (.func 18) [] []] m (.bool true) m' ∧ Fr F0 m m' := by
  have hlen : ns'.length = ns.length := by have := congrArg List.length hs; simpa using this
  refine ev_to ?_
  rw [hlen] at hr'
  cases hns : ns.length with
  | zero =>
    rw [hns] at hr hr'
    refine ev_of (fun m => hL.no _ _ m (by decide)) Tryd.func17 rfl rfl ?_
    refine wc_seq (wc_region (wa rfl rfl (wo_nil (thenW_n (wc_seq (wc_seq (wc_region (wm rfl rfl ?_))))))))
    first
      | refine wo_n rfl (nv_lenS rfl rfl rfl) rfl rfl ?_
      | refine wo_n rfl (nv_lenN rfl rfl rfl) rfl rfl ?_
      | refine wo_n rfl (nv_lenR (by assumption) rfl rfl rfl) rfl rfl ?_
    refine wm rfl rfl ?_
    first
      | refine wo_n rfl (nv_lenS rfl rfl rfl) rfl rfl ?_
      | refine wo_n rfl (nv_lenN rfl rfl rfl) rfl rfl ?_
      | refine wo_n rfl (nv_lenR (by assumption) rfl rfl rfl) rfl rfl ?_
    refine wo_n rfl (nv_neqF rfl rfl rfl (by first | assumption | decide | omega)) rfl rfl (wo_nil (thenW_n (wc_false rfl (wc_skip (thenW_n (wc_seq (wc_seq (wc_region (wm rfl rfl ?_)))))))))
    first
      | refine wo_n rfl (nv_lenS rfl rfl rfl) rfl rfl ?_
      | refine wo_n rfl (nv_lenN rfl rfl rfl) rfl rfl ?_
      | refine wo_n rfl (nv_lenR (by assumption) rfl rfl rfl) rfl rfl ?_
    refine wm rfl rfl (wo_nil (thenW_n (wc_block ?_)))
    refine wc_loop (fun q e mj => q = 0 ∧ mj = m ∧ ELe (envL [(16, .int .i64 0), (17, .int .i64 0)]) e) 0 ⟨rfl, rfl, .cons rfl (.cons rfl (.nil _))⟩ ?_
    rintro q e mj ⟨rfl, rfl, he⟩
    refine Wc.weak ?_ he
    refine wc_seq (wc_region (wo_n rfl (nv_lssF rfl rfl rfl (by first | assumption | decide | omega)) rfl rfl (wo_nil (thenW_n (wc_seq (wc_false rfl (wc_exit (thenW_x ?_))))))))
    refine blockW_x (thenW_n (wc_seq (wc_region (wa rfl rfl (wo_nil (thenW_n (wc_ret ?_)))))))
    refine endW_ret rfl rfl ?_
    exact ⟨rfl, Fr.refl _ _⟩
  | succ n0 =>
    have hf := RowR.form hr
    have hf' := RowR.form hr'
    rcases hf with rfl | ⟨q, rfl⟩
    · have := RowR.nil0 hr; omega
    rcases hf' with rfl | ⟨q', rfl⟩
    · have := RowR.nil0 hr'; omega
    refine ev_of (fun m => hL.no _ _ m (by decide)) Tryd.func17 rfl rfl ?_
    refine wc_seq (wc_region (wa rfl rfl (wo_nil (thenW_n (wc_seq (wc_seq (wc_region (wm rfl rfl ?_))))))))
    first
      | refine wo_n rfl (nv_lenS rfl rfl rfl) rfl rfl ?_
      | refine wo_n rfl (nv_lenN rfl rfl rfl) rfl rfl ?_
      | refine wo_n rfl (nv_lenR (by assumption) rfl rfl rfl) rfl rfl ?_
    refine wm rfl rfl ?_
    first
      | refine wo_n rfl (nv_lenS rfl rfl rfl) rfl rfl ?_
      | refine wo_n rfl (nv_lenN rfl rfl rfl) rfl rfl ?_
      | refine wo_n rfl (nv_lenR (by assumption) rfl rfl rfl) rfl rfl ?_
    refine wo_n rfl (nv_neqF rfl rfl rfl (by first | assumption | decide | omega)) rfl rfl (wo_nil (thenW_n (wc_false rfl (wc_skip (thenW_n (wc_seq (wc_seq (wc_region (wm rfl rfl ?_)))))))))
    first
      | refine wo_n rfl (nv_lenS rfl rfl rfl) rfl rfl ?_
      | refine wo_n rfl (nv_lenN rfl rfl rfl) rfl rfl ?_
      | refine wo_n rfl (nv_lenR (by assumption) rfl rfl rfl) rfl rfl ?_
    refine wm rfl rfl (wo_nil (thenW_n (wc_block ?_)))
    refine wc_loop (fun k e mj => ∃ i : Nat, k = ns.length - i ∧ i ≤ ns.length ∧ Fr F0 m mj ∧ ELe (envL [(1, .sl q' 0 ns.length ns.length 10), (2, .fn (.func 18) [] []), (15, .sl q 0 ns.length ns.length 10), (16, .int .i64 (ns.length : Nat)), (17, .int .i64 (i : Nat))]) e) ns.length ⟨0, by omega, by omega, Fr.refl _ _, .cons rfl (.cons rfl (.cons rfl (.cons rfl (.cons rfl (.nil _)))))⟩ ?_
    rintro k e mj ⟨i, rfl, hi, fm, he⟩
    refine Wc.weak ?_ he
    clear he
    rcases Nat.lt_or_ge i ns.length with hil | hge
    · have hx : ns[i]? = some ns[i] := List.getElem?_eq_getElem hil
      have hx' : ns'[i]? = some (ns'[i]'(by omega)) := List.getElem?_eq_getElem (by omega)
      have hst : strip (ns'[i]'(by omega)) = strip ns[i] := by
        have h1 : (ns'.map strip)[i]? = (ns.map strip)[i]? := by rw [hs]
        rw [List.getElem?_map, List.getElem?_map, hx, hx'] at h1
        exact Option.some.inj h1
      generalize ns[i] = x at hx hst
      generalize ns'[i]'(by omega) = x' at hx' hst
      have hr1 := hr.fr fm (fun _ _ _ h => h)
      have hr1' := hr'.fr fm (fun _ _ _ h => h)
      have w1 := row_at (f := ndC) (k := 10) (fun _ => rfl) hr1 hx
      have hlm := fm.le
      refine wc_seq (wc_region (wo_n rfl (nv_lssT rfl rfl rfl (by first | assumption | decide | omega)) rfl rfl (wo_nil (thenW_n (wc_seq (wc_true rfl (wc_skip (thenW_n (wc_seq ?_)))))))))
      refine wc_block (wc_seq (wc_region (wm rfl rfl ?_)))
      refine wo_n rfl (nv_ia rfl rfl rfl (ia_sl (by first | assumption | omega))) rfl rfl ?_
      refine wo_m rfl (mv_loadA rfl rfl (by assumption)) rfl rfl ?_
      refine wo_alloc rfl rfl rfl rfl ?_
      intro g1 m1 o1 f1 l1
      have a1 := o1
      have fa := f1
      refine wa rfl rfl ?_
      refine wo_store rfl rfl rfl rfl (by assumption) rfl rfl (Nat.le_of_ble_eq_true rfl) rfl ?_
      intro m2 o2 f2 n2
      have a2 : Blok m2 g1 38 (ndC x) := o2
      have fb := f2
      have hr2' := (hr1'.fr fa (fun _ _ _ h => h)).fr fb (fun y hy h e => by have h9 := hlt' y h; have e9 : y = g1 := e; have := fa.le; omega)
      have w2 := row_at (f := ndC) (k := 10) (fun _ => rfl) hr2' hx'
      refine wo_nil (thenW_n (wc_seq (wc_region (wm rfl rfl (wm rfl rfl ?_)))))
      refine wo_n rfl (nv_ia rfl rfl rfl (ia_sl (by first | assumption | omega))) rfl rfl ?_
      refine wo_m rfl (mv_loadA rfl rfl (by assumption)) rfl rfl ?_
      refine wo_alloc rfl rfl rfl rfl ?_
      intro g3 m3 o3 f3 l3
      have a3 := a2.fr f3 (fun h => h)
      have b3 := o3
      have fc := f3
      refine wo_store rfl rfl rfl rfl (by assumption) rfl rfl (Nat.le_of_ble_eq_true rfl) rfl ?_
      intro m4 o4 f4 n4
      have b4 : Blok m4 g3 38 (ndC x') := o4
      have fd := f4
      have a4 := a3.fr f4 (fun e => by have h1 := a2.lt; have e1 : g1 = g3 := e; omega)
      have x5 := a4.rowAll (n := 10) rfl
      have y5 := b4.rowAll (n := 10) rfl
      obtain ⟨ms, hms, fs⟩ := same1_spec (m := m4) hL x x' hst
      refine wo_nil (thenW_n (wc_seq (wc_region (wm rfl rfl ?_))))
      refine wo_m rfl (mv_loadA rfl rfl (by assumption)) rfl rfl ?_
      refine wo_m rfl (mv_loadA rfl rfl (by assumption)) rfl rfl ?_
      refine wo_callv rfl rfl rfl (by kernel_rfl) (hms) rfl rfl ?_
      refine wo_n rfl (nv_not rfl rfl) rfl rfl (wo_nil (thenW_n (wc_false rfl (wc_skip (blockW_n (thenW_n (wc_region ?_)))))))
      refine wo_n rfl (nv_add rfl rfl rfl rfl (by first | decide | omega) (by first | decide | omega)) rfl rfl ?_
      refine wm rfl rfl (wo_nil ?_)
      have fAll : Fr F0 m ms := by
        have q1 := fr_new fa fb a1 l1
        have q2 := fr_new (m := m2) fc fd b3 l3
        exact ((fm.trans q1 (fun _ _ h => h)).trans q2 (fun _ _ h => h)).trans fs (fun _ _ h => h)
      exact ⟨ns.length - (i + 1), by omega, i + 1, rfl, by omega, fAll, .cons rfl (.cons rfl (.cons rfl (.cons rfl (.cons rfl (.nil _)))))⟩
    · have : i = ns.length := by omega
      subst this
      refine wc_seq (wc_region (wo_n rfl (nv_lssF rfl rfl rfl (by first | assumption | decide | omega)) rfl rfl (wo_nil (thenW_n (wc_seq (wc_false rfl (wc_exit (thenW_x ?_))))))))
      refine blockW_x (thenW_n (wc_seq (wc_region (wa rfl rfl (wo_nil (thenW_n (wc_ret ?_)))))))
      refine endW_ret rfl rfl ?_
      exact ⟨rfl, fm⟩
theorem same_spec {own own' : Nat → Prop} {v v' : V} {ns ns' : List Nd} (hr : RowR m own 38 10 v (ns.flatMap ndC) ns.length) (hr' : RowR m own' 38 10 v' (ns'.flatMap ndC) ns'.length) (hs : ns'.map strip = ns.map strip) (hlt : ∀ x, own x → x < m.next) (hlt' : ∀ x, own' x → x < m.next) (h512 : ns.length ≤ 512) :
    ∃ m', Ev Tryd.prog xb ext 7 [v, v'] m (.bool true) m' ∧ Fr F0 m m' := by
  obtain ⟨m1, h1, f1⟩ := equal_spec hL hr hr' hs hlt hlt' h512
  refine ev_to ?_
  refine ev_of (fun m => hL.no _ _ m (by decide)) Tryd.func7 rfl rfl ?_
  refine wc_seq (wc_region (wa rfl rfl (wo_nil (thenW_n (wc_seq (wc_region (wm rfl rfl (wm rfl rfl ?_))))))))
  refine wo_call rfl rfl (by kernel_rfl) (h1) rfl rfl ?_
  refine wa rfl rfl (wo_nil (thenW_n (wc_ret ?_)))
  refine endW_ret rfl rfl ?_
  exact ⟨rfl, f1⟩
theorem ops_spec {own own' : Nat → Prop} {v v' : V} {os : List Od} (hr : RowR m own 36 3 v (os.flatMap odC) os.length) (hr' : RowR m own' 36 3 v' (os.flatMap odC) os.length) (h4 : os.length ≤ 4) :
    Ev Tryd.prog xb ext 8 [v, v'] m (.bool true) m := by
  refine ev_val ?_
  cases hns : os.length with
  | zero =>
    rw [hns] at hr hr'
    refine ev_of (fun m => hL.no _ _ m (by decide)) Tryd.func8 rfl rfl ?_
    refine wc_seq (wc_region (wa rfl rfl (wo_nil (thenW_n (wc_seq (wc_seq (wc_region (wm rfl rfl ?_))))))))
    first
      | refine wo_n rfl (nv_lenS rfl rfl rfl) rfl rfl ?_
      | refine wo_n rfl (nv_lenN rfl rfl rfl) rfl rfl ?_
      | refine wo_n rfl (nv_lenR (by assumption) rfl rfl rfl) rfl rfl ?_
    refine wm rfl rfl ?_
    first
      | refine wo_n rfl (nv_lenS rfl rfl rfl) rfl rfl ?_
      | refine wo_n rfl (nv_lenN rfl rfl rfl) rfl rfl ?_
      | refine wo_n rfl (nv_lenR (by assumption) rfl rfl rfl) rfl rfl ?_
    refine wo_n rfl (nv_neqF rfl rfl rfl (by first | assumption | decide | omega)) rfl rfl (wo_nil (thenW_n (wc_false rfl (wc_skip (thenW_n (wc_seq (wc_seq (wc_region (wa rfl rfl ?_)))))))))
    refine wo_nil (thenW_n (wc_block ?_))
    refine wc_loop (fun q e mj => q = 0 ∧ mj = m ∧ ELe (envL [(0, v), (5, .int .i64 0)]) e) 0 ⟨rfl, rfl, .cons rfl (.cons rfl (.nil _))⟩ ?_
    rintro q e mj ⟨rfl, rfl, he⟩
    refine Wc.weak ?_ he
    refine wc_seq (wc_seq (wc_region (wm rfl rfl (wm rfl rfl ?_))))
    first
      | refine wo_n rfl (nv_lenS rfl rfl rfl) rfl rfl ?_
      | refine wo_n rfl (nv_lenN rfl rfl rfl) rfl rfl ?_
      | refine wo_n rfl (nv_lenR (by assumption) rfl rfl rfl) rfl rfl ?_
    refine wo_n rfl (nv_lssF rfl rfl rfl (by first | assumption | decide | omega)) rfl rfl (wo_nil (thenW_n (wc_false rfl (wc_exit (thenW_x ?_)))))
    refine blockW_x (thenW_n (wc_seq (wc_region (wa rfl rfl (wo_nil (thenW_n (wc_ret ?_)))))))
    refine endW_ret rfl rfl ?_
    exact ⟨rfl, rfl⟩
  | succ n0 =>
    have hf := RowR.form hr
    have hf' := RowR.form hr'
    rcases hf with rfl | ⟨q, rfl⟩
    · have := RowR.nil0 hr; omega
    rcases hf' with rfl | ⟨q', rfl⟩
    · have := RowR.nil0 hr'; omega
    refine ev_of (fun m => hL.no _ _ m (by decide)) Tryd.func8 rfl rfl ?_
    refine wc_seq (wc_region (wa rfl rfl (wo_nil (thenW_n (wc_seq (wc_seq (wc_region (wm rfl rfl ?_))))))))
    first
      | refine wo_n rfl (nv_lenS rfl rfl rfl) rfl rfl ?_
      | refine wo_n rfl (nv_lenN rfl rfl rfl) rfl rfl ?_
      | refine wo_n rfl (nv_lenR (by assumption) rfl rfl rfl) rfl rfl ?_
    refine wm rfl rfl ?_
    first
      | refine wo_n rfl (nv_lenS rfl rfl rfl) rfl rfl ?_
      | refine wo_n rfl (nv_lenN rfl rfl rfl) rfl rfl ?_
      | refine wo_n rfl (nv_lenR (by assumption) rfl rfl rfl) rfl rfl ?_
    refine wo_n rfl (nv_neqF rfl rfl rfl (by first | assumption | decide | omega)) rfl rfl (wo_nil (thenW_n (wc_false rfl (wc_skip (thenW_n (wc_seq (wc_seq (wc_region (wa rfl rfl ?_)))))))))
    refine wo_nil (thenW_n (wc_block ?_))
    refine wc_loop (fun k e mj => ∃ i : Nat, k = os.length - i ∧ i ≤ os.length ∧ mj = m ∧ ELe (envL [(0, .sl q 0 os.length os.length 3), (1, .sl q' 0 os.length os.length 3), (5, .int .i64 (i : Nat))]) e) os.length ⟨0, by omega, by omega, rfl, .cons rfl (.cons rfl (.cons rfl (.nil _)))⟩ ?_
    rintro k e mj ⟨i, rfl, hi, rfl, he⟩
    refine Wc.weak ?_ he
    clear he
    rcases Nat.lt_or_ge i os.length with hil | hge
    · have hx : os[i]? = some os[i] := List.getElem?_eq_getElem hil
      generalize os[i] = x at hx
      have w1 := row_at (f := odC) (k := 3) (fun _ => rfl) hr hx
      have w2 := row_at (f := odC) (k := 3) (fun _ => rfl) hr' hx
      refine wc_seq (wc_seq (wc_region (wm rfl rfl (wm rfl rfl ?_))))
      first
        | refine wo_n rfl (nv_lenS rfl rfl rfl) rfl rfl ?_
        | refine wo_n rfl (nv_lenN rfl rfl rfl) rfl rfl ?_
        | refine wo_n rfl (nv_lenR (by assumption) rfl rfl rfl) rfl rfl ?_
      refine wo_n rfl (nv_lssT rfl rfl rfl (by first | assumption | decide | omega)) rfl rfl (wo_nil (thenW_n (wc_true rfl (wc_skip (thenW_n (wc_seq (wc_block (wc_seq ?_))))))))
      refine wc_draw (by kernel_rfl) ?_
      refine wd_cast (l' := [0, 1, 2, 3, 4, 5, 6, 7, 8]) (by kernel_rfl) rfl ?_
      refine wd_n rfl rfl rfl (nv_move rfl rfl) rfl rfl ?_
      refine wd_n rfl rfl rfl (nv_move rfl rfl) rfl rfl ?_
      refine wd_n rfl rfl rfl (nv_ia rfl rfl rfl (ia_sl (by first | assumption | omega))) rfl rfl ?_
      refine wd_loadA rfl rfl rfl rfl (by assumption) rfl rfl ?_
      refine wd_n rfl rfl rfl (nv_move rfl rfl) rfl rfl ?_
      refine wd_n rfl rfl rfl (nv_move rfl rfl) rfl rfl ?_
      refine wd_n rfl rfl rfl (nv_ia rfl rfl rfl (ia_sl (by first | assumption | omega))) rfl rfl ?_
      refine wd_loadA rfl rfl rfl rfl (by assumption) rfl rfl ?_
      refine wd_n rfl rfl rfl (nv_neqA rfl rfl rfl (by kernel_rfl)) rfl rfl ?_
      refine wd_nil ?_
      refine thenW_n (wc_false rfl (wc_skip (blockW_n (thenW_n (wc_region (wm rfl rfl ?_))))))
      refine wo_n rfl (nv_add rfl rfl rfl rfl (by first | decide | omega) (by first | decide | omega)) rfl rfl ?_
      refine wa rfl rfl (wo_nil ?_)
      exact ⟨os.length - (i + 1), by omega, i + 1, rfl, by omega, rfl, .cons rfl (.cons rfl (.cons rfl (.nil _)))⟩
    · have : i = os.length := by omega
      subst this
      refine wc_seq (wc_seq (wc_region (wm rfl rfl (wm rfl rfl ?_))))
      first
        | refine wo_n rfl (nv_lenS rfl rfl rfl) rfl rfl ?_
        | refine wo_n rfl (nv_lenN rfl rfl rfl) rfl rfl ?_
        | refine wo_n rfl (nv_lenR (by assumption) rfl rfl rfl) rfl rfl ?_
      refine wo_n rfl (nv_lssF rfl rfl rfl (by first | assumption | decide | omega)) rfl rfl (wo_nil (thenW_n (wc_false rfl (wc_exit (thenW_x ?_)))))
      refine blockW_x (thenW_n (wc_seq (wc_region (wa rfl rfl (wo_nil (thenW_n (wc_ret ?_)))))))
      refine endW_ret rfl rfl ?_
      exact ⟨rfl, rfl⟩
end
end Go.Proofs.YtppcjlplihiiiaaDoor.Sy

namespace Go.Ev.Wm
open Go Go.Ev.Pm Go.Ev.Lm
set_option linter.unusedVariables false
set_option linter.unusedSimpArgs false
def nmB (s : ByteArray) : Prop := nm s.data.toList = true
inductive Form : Nd → Prop
  | var (s : ByteArray) (p : Int) (h : nmB s) : Form { nm := s, at_ := p }
  | int (n p : Int) (h : 0 ≤ n ∧ n ≤ 1073741823) : Form { k := 1, num := n, at_ := p }
  | bool (n p : Int) (h : n = 0 ∨ n = 1) : Form { k := 2, num := n, at_ := p }
  | fn (a p : Int) (s : ByteArray) (h : nmB s) : Form { k := 3, a := a, x := s, at_ := p }
  | app (a b p : Int) : Form { k := 4, a := a, b := b, at_ := p }
  | lt (a b p : Int) (s : ByteArray) (h : nmB s) : Form { k := 5, a := a, b := b, x := s, at_ := p }
  | rc (a b p : Int) (s t : ByteArray) (h : nmB s) (h' : nmB t) : Form { k := 6, a := a, b := b, x := s, y := t, at_ := p }
  | if_ (a b c p : Int) : Form { k := 7, a := a, b := b, c := c, at_ := p }
  | prim (n a b p : Int) (h : 0 ≤ n ∧ n ≤ 5) : Form { k := 8, num := n, a := a, b := b, at_ := p }
  | do_ (a p : Int) (s : ByteArray) (h : nmB s) : Form { k := 9, a := a, nm := s, at_ := p }
  | handle (a b c p : Int) (s x y z : ByteArray) (h : nmB s) (hx : nmB x) (hy : nmB y) (hz : nmB z) : Form { k := 10, a := a, b := b, c := c, nm := s, x := x, y := y, z := z, at_ := p }
inductive IsTree (L : Int) : Nat → List Nd → Prop
  | leaf (b : Nat) (x : Nd) (h : Form x) (hk : x.k = 0 ∨ x.k = 1 ∨ x.k = 2) (hp : 0 ≤ x.at_ ∧ x.at_ < L) : IsTree L b [x]
  | one (b : Nat) (t : List Nd) (x : Nd) (ht : IsTree L b t) (h : Form x) (hk : x.k = 3 ∨ x.k = 9) (hp : 0 ≤ x.at_ ∧ x.at_ < L) (ha : x.a = (b : Int) + t.length - 1) : IsTree L b (t ++ [x])
  | two (b : Nat) (t u : List Nd) (x : Nd) (ht : IsTree L b t) (hu : IsTree L (b + t.length) u) (h : Form x) (hk : x.k = 4 ∨ x.k = 5 ∨ x.k = 6 ∨ x.k = 8) (hp : 0 ≤ x.at_ ∧ x.at_ < L) (ha : x.a = (b : Int) + t.length - 1) (hb : x.b = (b : Int) + t.length + u.length - 1) : IsTree L b (t ++ u ++ [x])
  | three (b : Nat) (t u w : List Nd) (x : Nd) (ht : IsTree L b t) (hu : IsTree L (b + t.length) u) (hw : IsTree L (b + t.length + u.length) w) (h : Form x) (hk : x.k = 7 ∨ x.k = 10) (hp : 0 ≤ x.at_ ∧ x.at_ < L) (ha : x.a = (b : Int) + t.length - 1) (hb : x.b = (b : Int) + t.length + u.length - 1) (hc : x.c = (b : Int) + t.length + u.length + w.length - 1) : IsTree L b (t ++ u ++ w ++ [x])
theorem IsTree.pos {L : Int} {b : Nat} {t : List Nd} (h : IsTree L b t) : 1 ≤ t.length := by cases h <;> simp <;> omega
def tokOk (L : Int) (t : Tk) : Prop := 0 ≤ t.at_ ∧ t.at_ < L ∧ (t.kind = 0 → nmB t.text) ∧ (t.kind = 1 → 0 ≤ t.num ∧ t.num ≤ 1073741823)
def TV (L : Int) (P : PS) : Prop := ∀ t, t ∈ P.toks → tokOk L t
section
variable {E L : Int} {P : PS}
def Ke (P Q : PS) : Prop := (∀ z, P.err = some z → Q.err = some z) ∧ (∀ t, t ∈ Q.toks → t ∈ P.toks)
theorem Ke.refl (P : PS) : Ke P P := ⟨fun _ h => h, fun _ h => h⟩
theorem Ke.trans {P Q R : PS} (h : Ke P Q) (k : Ke Q R) : Ke P R := ⟨fun z hz => k.1 z (h.1 z hz), fun t ht => h.2 t (k.2 t ht)⟩
theorem Ke.none {P Q : PS} (h : Ke P Q) (hq : Q.err = none) : P.err = none := by
  cases hp : P.err with
  | none => rfl
  | some z => rw [h.1 z hp] at hq; cases hq
theorem Ke.tv {P Q : PS} (h : Ke P Q) (k : TV L P) : TV L Q := fun t ht => k t (h.2 t ht)
end
end Go.Ev.Wm

namespace Go.Ev.Wm
open Go Go.Ev.Pm Go.Ev.Lm
set_option linter.unusedVariables false
set_option linter.unusedSimpArgs false
section
variable {E L : Int} {P : PS}
def Out (L : Int) (P : PS) (v : Int) (Q : PS) : Prop := ∃ t, Q.ns = P.ns ++ t ∧ IsTree L P.ns.length t ∧ v = (P.ns.length : Int) + t.length - 1
def isE : Cm → Prop
  | .more _ _ => False
  | .apps _ _ => False
  | _ => True
structure Tr (E L : Int) (n : Nat) : Prop where
  e : ∀ c P v Q, isE c → TV L P → run E n c P = some (v, Q) → Q.err = none → Out L P v Q
  m : ∀ l a P v Q u w, TV L P → run E n (.more l a) P = some (v, Q) → Q.err = none → P.ns = u ++ w → IsTree L u.length w → a = (u.length : Int) + w.length - 1 → ∃ w', Q.ns = u ++ w' ∧ IsTree L u.length w' ∧ v = (u.length : Int) + w'.length - 1
  s : ∀ p a P v Q u w, 0 ≤ p ∧ p < L → TV L P → run E n (.apps p a) P = some (v, Q) → Q.err = none → P.ns = u ++ w → IsTree L u.length w → a = (u.length : Int) + w.length - 1 → ∃ w', Q.ns = u ++ w' ∧ IsTree L u.length w' ∧ v = (u.length : Int) + w'.length - 1
end
end Go.Ev.Wm

namespace Go.Ev.Wm
open Go Go.Ev.Pm Go.Ev.Lm
set_option linter.unusedVariables false
set_option linter.unusedSimpArgs false
def EO (E : Int) (P : PS) : Prop := (∀ t, t ∈ P.toks → 0 ≤ t.at_ ∧ t.at_ ≤ E) ∧ ∀ z, P.err = some z → (401 ≤ z.1 ∧ z.1 ≤ 403) ∧ 0 ≤ z.2 ∧ z.2 ≤ E
def Ek (E : Int) (P Q : PS) : Prop := EO E P → EO E Q
section
variable {E L : Int} {P : PS}
theorem Ek.refl (P : PS) : Ek E P P := fun h => h
theorem Ek.trans {P Q R : PS} (h : Ek E P Q) (k : Ek E Q R) : Ek E P R := fun x => k (h x)
theorem fail_ek (hE : 0 ≤ E) (c : Int) (hc : 401 ≤ c ∧ c ≤ 403) (P : PS) : Ek E P (fail E c P) := fun ho => by
  unfold fail
  cases h : P.err with
  | some z => exact ho
  | none =>
    refine ⟨ho.1, fun z hz => ?_⟩
    cases hz
    refine ⟨hc, ?_⟩
    show 0 ≤ here E P ∧ here E P ≤ E
    unfold here
    cases ht : P.toks with
    | nil => exact ⟨hE, Int.le_refl _⟩
    | cons t r => exact ho.1 t (by rw [ht]; simp)
theorem drop1_ek (P : PS) : Ek E P (drop1 P) := fun ho => ⟨fun t ht => ho.1 t (List.mem_of_mem_tail ht), ho.2⟩
theorem must_ek (hE : 0 ≤ E) (s : ByteArray) (P : PS) : Ek E P (must E s P) := by unfold must; split; exact drop1_ek P; exact fail_ek hE _ (by decide) P
theorem name_ek (hE : 0 ≤ E) (P : PS) : Ek E P (name E P).2 := by
  unfold name
  split
  · split
    · exact drop1_ek P
    · exact fail_ek hE _ (by decide) P
  · exact fail_ek hE _ (by decide) P
theorem base_ek (hE : 0 ≤ E) (P : PS) : Ek E P (base E P).2 := by unfold base; split; exact drop1_ek P; exact must_ek hE _ P
theorem take_ek (s : ByteArray) (P : PS) : Ek E P (take s P).2 := by unfold take; split; exact drop1_ek P; exact Ek.refl P
theorem put_ek (hE : 0 ≤ E) (x : Nd) (P : PS) : Ek E P (put E x P).2 := by
  have key : ∀ Q : PS, Ek E Q (match Q.err with | some _ => ((0 : Int), Q) | none => (Q.ns.length, { Q with ns := Q.ns ++ [x] })).2 := fun Q => by
    cases h : Q.err with
    | none => exact fun ho => ⟨ho.1, fun z hz => by cases hz⟩
    | some z => exact Ek.refl Q
  unfold put
  split
  · exact (fail_ek hE _ (by decide) P).trans (key _)
  · exact key P
theorem run_ek (hE : 0 ≤ E) : ∀ (n : Nat) (c : Cm) (P : PS) (v : Int) (Q : PS), run E n c P = some (v, Q) → Ek E P Q := by
  intro n
  induction n with
  | zero => intro c P v Q h; simp [run] at h
  | succ n ih =>
    intro c P v Q h
    have putR : ∀ {x : Nd} {R : PS}, some (put E x R) = some (v, Q) → Ek E R Q := fun {x R} h => by
      have := put_ek hE x R
      rw [Option.some.inj h] at this
      exact this
    have letR : ∀ {at_ : Int} {rc : Bool} {R : PS}, letM E (run E n .inner) at_ rc R = some (v, Q) → Ek E R Q := fun {at_ rc R} h => by
      unfold letM at h
      obtain ⟨a, A, h1, h⟩ := bindR_some h
      obtain ⟨b, B, h2, h⟩ := bindR_some h
      refine (name_ek hE R).trans (Ek.trans ?_ ((must_ek hE _ _).trans ((ih _ _ _ _ h1).trans ((must_ek hE _ _).trans ((ih _ _ _ _ h2).trans (putR h))))))
      split
      · exact name_ek hE _
      · exact Ek.refl _
    cases c with
    | inner =>
      rw [run] at h
      have hp : Ek E P (pre E P) := by unfold pre; split; exact fail_ek hE _ (by decide) P; exact Ek.refl P
      split at h
      · cases h; exact hp
      · rename_i hz
        obtain ⟨a, A, h1, h⟩ := bindR_some h
        cases h
        have h2 : Ek E { pre E P with deep := P.deep + 1 } A := by
          first
            | exact ih _ _ _ _ h1
            | (have := ih _ _ _ _ h1; rw [← hz] at this; exact this)
        exact fun ho => (h2 (hp ho) : EO E A)
    | expr =>
      rw [run] at h
      split at h
      · obtain ⟨a, A, h1, h⟩ := bindR_some h
        exact (drop1_ek P).trans ((name_ek hE _).trans ((must_ek hE _ _).trans ((ih _ _ _ _ h1).trans (putR h))))
      · split at h
        · split at h
          · exact (drop1_ek P).trans ((drop1_ek _).trans (letR h))
          · exact (drop1_ek P).trans (letR h)
        · split at h
          · obtain ⟨a, A, h1, h⟩ := bindR_some h
            obtain ⟨b, B, h2, h⟩ := bindR_some h
            obtain ⟨c, C, h3, h⟩ := bindR_some h
            exact (drop1_ek P).trans ((ih _ _ _ _ h1).trans ((must_ek hE _ _).trans ((ih _ _ _ _ h2).trans ((must_ek hE _ _).trans ((ih _ _ _ _ h3).trans (putR h))))))
          · exact ih _ _ _ _ h
    | level l =>
      rw [run] at h
      split at h
      · exact ih _ _ _ _ h
      · obtain ⟨a, A, h1, h⟩ := bindR_some h
        exact (ih _ _ _ _ h1).trans (ih _ _ _ _ h)
    | more l a =>
      rw [run] at h
      split at h
      · cases h; exact Ek.refl _
      · obtain ⟨b, B, h1, h⟩ := bindR_some h
        dsimp only at h
        split at h
        · exact (drop1_ek P).trans ((ih _ _ _ _ h1).trans (putR h))
        · exact (drop1_ek P).trans ((ih _ _ _ _ h1).trans ((put_ek hE _ _).trans (ih _ _ _ _ h)))
    | apply =>
      rw [run] at h
      split at h
      · obtain ⟨a, A, h1, h⟩ := bindR_some h
        exact (drop1_ek P).trans ((name_ek hE _).trans ((ih _ _ _ _ h1).trans ((put_ek hE _ _).trans (ih _ _ _ _ h))))
      · obtain ⟨a, A, h1, h⟩ := bindR_some h
        exact (ih _ _ _ _ h1).trans (ih _ _ _ _ h)
    | apps at_ a =>
      rw [run] at h
      split at h
      · obtain ⟨a, A, h1, h⟩ := bindR_some h
        exact (ih _ _ _ _ h1).trans ((put_ek hE _ _).trans (ih _ _ _ _ h))
      · cases h; exact Ek.refl _
    | atom =>
      rw [run] at h
      split at h
      · split at h
        · cases h; exact fail_ek hE _ (by decide) P
        · split at h
          · exact (name_ek hE P).trans (putR h)
          · split at h
            · exact (drop1_ek P).trans (putR h)
            · split at h
              · obtain ⟨a, A, h1, h⟩ := bindR_some h
                cases h
                exact (drop1_ek P).trans ((ih _ _ _ _ h1).trans (must_ek hE _ _))
              · split at h
                · split at h
                  · cases h
                  · rename_i hh
                    refine (drop1_ek P).trans (Ek.trans ?_ (putR h))
                    unfold handleM at hh
                    split at hh
                    · cases hh
                    · rename_i h1
                      dsimp only at hh
                      split at hh
                      · cases hh
                      · rename_i h2
                        split at hh
                        · cases hh
                        · rename_i h3
                          cases hh
                          exact (ih _ _ _ _ h1).trans ((must_ek hE _ _).trans ((name_ek hE _).trans ((name_ek hE _).trans ((name_ek hE _).trans ((must_ek hE _ _).trans ((ih _ _ _ _ h2).trans ((must_ek hE _ _).trans ((name_ek hE _).trans ((must_ek hE _ _).trans ((ih _ _ _ _ h3).trans (must_ek hE _ _)))))))))))
                · split at h
                  · exact (drop1_ek P).trans (putR h)
                  · exact (take_ek _ P).trans (putR h)
      · cases h; exact fail_ek hE _ (by decide) P
theorem opM_ek (hE : 0 ≤ E) (P : PS) : Ek E P (opM E P) := by
  unfold opM
  split
  · exact fail_ek hE _ (by decide) P
  · have h := (must_ek hE kop P).trans ((name_ek hE _).trans ((must_ek hE kcolon _).trans ((base_ek hE _).trans ((must_ek hE karrow _).trans ((base_ek hE _).trans (must_ek hE ksemi _))))))
    exact fun ho => ⟨(h ho).1, (h ho).2⟩
theorem opsM_ek (hE : 0 ≤ E) : ∀ (n : Nat) (P : PS), Ek E P (opsM E n P) := by
  intro n
  induction n with
  | zero => exact fun P => Ek.refl P
  | succ n ih =>
    intro P
    simp only [opsM]
    split
    · exact (opM_ek hE P).trans (ih _)
    · exact Ek.refl P
theorem parse_err (hE : 0 ≤ E) (ts : List Tk) (ht : ∀ t, t ∈ ts → 0 ≤ t.at_ ∧ t.at_ ≤ E) {a c : Int} (h : parseM E ts = .err a c) : (401 ≤ c ∧ c ≤ 403) ∧ 0 ≤ a ∧ a ≤ E := by
  have h0 : EO E { toks := ts } := ⟨ht, fun z hz => by cases hz⟩
  have h1 : EO E (parseP E ts) := by
    unfold parseP
    dsimp only
    have h2 := opsM_ek hE (ts.length + 1) _ h0
    split
    · rename_i v Q hr
      have h3 := run_ek hE _ _ _ _ _ hr h2
      unfold endM
      split
      · exact fail_ek hE _ (by decide) _ h3
      · exact h3
    · exact h2
  unfold parseM at h
  split at h
  · rename_i c' a' hz
    cases h
    exact h1.2 _ hz
  · cases h
end
theorem lexM_pos : ∀ (f p : Nat) (l : List UInt8), (∀ a c, lexM f p l = .err a c → p ≤ a ∧ a < p + l.length) ∧ (∀ ts, lexM f p l = .ok ts → ∀ t, t ∈ ts → (p : Int) ≤ t.at_ ∧ t.at_ < p + l.length) := by
  intro f
  induction f with
  | zero => intro p l; exact ⟨fun a c h => (by cases h), fun ts h t ht => (by cases h; cases ht)⟩
  | succ f ih =>
    intro p l
    cases l with
    | nil => exact ⟨fun a c h => (by cases h), fun ts h t ht => (by cases h; cases ht)⟩
    | cons b r =>
      simp only [lexM]
      split
      · obtain ⟨h1, h2⟩ := ih (p + 1) r
        refine ⟨fun a c h => ?_, fun ts h t ht => ?_⟩
        · have := h1 a c h; simp; omega
        · have := h2 ts h t ht; simp; omega
      · split
        · obtain ⟨h1, h2⟩ := ih (p + cutN (b :: r)) ((b :: r).drop (cutN (b :: r)))
          have hc : cutN (b :: r) ≤ (b :: r).length := (List.takeWhile_sublist _).length_le
          rw [List.length_drop] at h1 h2
          refine ⟨fun a c h => ?_, fun ts h t ht => ?_⟩
          · have := h1 a c h; omega
          · have := h2 ts h t ht; omega
        · cases htk : tokM (b :: r) with
          | err e => exact ⟨fun a c h => (by cases h; simp), fun ts h => (by cases h)⟩
          | ok k s num n =>
            dsimp only
            obtain ⟨h1, h2⟩ := ih (p + n) ((b :: r).drop n)
            rw [List.length_drop] at h1 h2
            cases hr : lexM f (p + n) ((b :: r).drop n) with
            | err a c =>
              refine ⟨fun a' c' h => ?_, fun ts h => (by cases h)⟩
              cases h
              have := h1 a c hr
              omega
            | ok ts =>
              refine ⟨fun a c h => (by cases h), fun ts' h t ht => ?_⟩
              cases h
              rcases List.mem_cons.1 ht with rfl | ht
              · simp; omega
              · have := h2 ts hr t ht
                omega
theorem badM_pos : ∀ (f p : Nat) (l : List UInt8) (i : Nat), badM f p l = some i → p ≤ i ∧ i < p + l.length := by
  intro f
  induction f with
  | zero => intro p l i h; cases h
  | succ f ih =>
    intro p l i h
    cases l with
    | nil => cases h
    | cons c r =>
      simp only [badM] at h
      split at h
      · cases h; simp
      · have := ih _ _ _ h
        rw [List.length_drop] at this
        omega
theorem lexT_err {s : List UInt8} {a : Nat} {c : Int} (h : lexT s = .err a c) : a ≤ s.length := by
  unfold lexT at h
  split at h
  · cases h; omega
  · split at h
    · rename_i i hi
      cases h
      have := badM_pos _ _ _ _ hi
      omega
    · have := (lexM_pos _ _ _).1 _ _ h
      omega
theorem lexT_tok {s : List UInt8} {ts : List Tk} (h : lexT s = .ok ts) : ∀ t, t ∈ ts → 0 ≤ t.at_ ∧ t.at_ < s.length := by
  unfold lexT at h
  split at h
  · cases h
  · split at h
    · cases h
    · intro t ht
      have := (lexM_pos _ _ _).2 _ h t ht
      omega
end Go.Ev.Wm

namespace Go.Proofs.YtppcjlplihiiiaaDoor.Sy
open Go Go.Ev Go.Ev.Pm Go.Ev.Lm Go.Ev.Bm
set_option linter.unusedVariables false
set_option linter.unusedSimpArgs false
set_option linter.unusedSectionVars false
theorem parseL_T (l : List UInt8) : parseL l = parseT l := rfl
theorem ahead_len (w : Nat) : (Bm.ahead w).length ≤ 13 := by unfold Bm.ahead; split <;> decide
theorem parse_bad {s : List UInt8} {a c : Int} (h : parseL s = .err a c) : c ≠ 0 ∧ 0 ≤ a ∧ a ≤ s.length := by
  unfold parseL at h
  cases hl : lexT s with
  | err a' c' =>
    rw [hl] at h
    cases h
    have := Wm.lexT_err hl
    exact ⟨by decide, by omega, by omega⟩
  | ok ts =>
    rw [hl] at h
    have := Wm.parse_err (E := (s.length : Nat)) (by omega) ts (fun t ht => by have := Wm.lexT_tok hl t ht; omega) h
    omega
theorem one2 {m m' : Mem} {o1 o2 : Nat → Prop} {e1 e2 s1 s2 n1 n2 : Nat} {v w : V} {c d : List V} (h : RowR m o1 e1 s1 v c n1) (k : RowR m' o2 e2 s2 w d n2) : oneL [v, w] = true := by
  cases h <;> cases k <;> rfl
section
variable {m : Mem} {xb : XB} {ext : CallF} (hL : LH xb ext) (hX : XH ext) (hA : ∀ m, Good m.gl → ext 4 [] m = some (.bool true, m))
include hL hX hA
set_option maxHeartbeats 2000000 in
theorem blanks_walk (hN : New m) (hg : Good m.gl) (s : List UInt8) (hs : s.length ≤ 140737488351232) (w : Nat) (hw : w < 4) : ∃ v m', Ev Tryd.prog xb ext 3 [vs (txt s), .res .i64 4 w] m v m' ∧ v = .bool true := by
  have haw := ev_ext (p := Tryd.prog) (xb := xb) (hA m hg)
  have hal := ahead_len w
  have hw4 : w = 0 ∨ w = 1 ∨ w = 2 ∨ w = 3 := by omega
  have hcat : Bm.ahead w ++ s ++ [10] ++ Bm.ahead w = Bm.ahead w ++ (s ++ 10 :: Bm.ahead w) := by simp
  have hlen : (Bm.ahead w ++ s ++ [10] ++ Bm.ahead w).length = (Bm.ahead w).length + s.length + 1 + (Bm.ahead w).length := by simp only [List.length_append, List.length_cons, List.length_nil]
  by_cases hbig : 4096 < (Bm.ahead w ++ s ++ [10] ++ Bm.ahead w).length
  · refine ev_of (fun m => hL.no _ _ m (by decide)) Tryd.func3 rfl rfl ?_
    refine wc_seq (wc_region (wa rfl rfl (wo_nil (thenW_n (wc_seq (wc_seq (wc_region ?_)))))))
    refine wo_call rfl rfl (by kernel_rfl) (haw) rfl rfl ?_
    refine wo_n rfl (nv_not rfl rfl) rfl rfl (wo_nil (thenW_n (wc_false rfl (wc_skip (thenW_n (wc_seq (wc_region ?_)))))))
    refine wo_bslice rfl rfl rfl rfl rfl (by decide) rfl rfl ?_
    intro g1 m1 o1 f1 l1
    have hc : m1.cell g1 (0 + w * 1) = some (vs (txt (Bm.ahead w))) := by rcases hw4 with rfl | rfl | rfl | rfl <;> exact o1.cell (by kernel_rfl)
    refine wm rfl rfl ?_
    refine wo_n rfl (nv_bin rfl rfl rfl ((show _ = some (V.int .i64 ((w : Nat) : Int)) by rcases hw4 with rfl | rfl | rfl | rfl <;> kernel_rfl))) rfl rfl ?_
    refine wo_n rfl (nv_ia rfl rfl rfl (ia_sl (by first | assumption | omega))) rfl rfl ?_
    refine wo_m rfl (mv_load rfl rfl (by assumption)) rfl rfl ?_
    refine wa rfl rfl (wo_nil (thenW_n (wc_seq (wc_region (wm rfl rfl (wm rfl rfl ?_))))))
    refine wo_n rfl (nv_saddL rfl rfl rfl (by (try simp only [List.length_append, List.length_cons, List.length_nil]); omega)) rfl rfl ?_
    refine wo_n rfl (nv_saddL rfl rfl (show _ = some (vs (txt [10])) by kernel_rfl) (by (try simp only [List.length_append, List.length_cons, List.length_nil]); omega)) rfl rfl ?_
    refine wm rfl rfl ?_
    refine wo_n rfl (nv_saddL rfl rfl rfl (by (try simp only [List.length_append, List.length_cons, List.length_nil]); omega)) rfl rfl ?_
    refine wa rfl rfl (wo_nil (thenW_n (wc_seq (wc_seq (wc_region (wm rfl rfl ?_))))))
    first
      | refine wo_n rfl (nv_lenL rfl rfl rfl) rfl rfl ?_
      | refine wo_n rfl (nv_lenT rfl rfl rfl) rfl rfl ?_
    refine wo_n rfl (nv_gtrT rfl rfl rfl (by first | assumption | decide | omega)) rfl rfl (wo_nil (thenW_n (wc_true rfl (wc_seq (wc_region (wa rfl rfl (wo_nil (thenW_n (wc_ret ?_)))))))))
    refine thenW_r ?_
    refine endW_ret rfl rfl ?_
    rfl
  · have hrel := parse_around w s (by rw [← hcat]; omega)
    rw [← parseL_T, ← parseL_T, ← hcat] at hrel
    generalize ht : Bm.ahead w ++ s ++ [10] ++ Bm.ahead w = t at hrel
    have hbt : t.length ≤ 4096 := by rw [← ht]; omega
    cases hp1 : parseL s with
    | err a c =>
      cases hp2 : parseL t with
      | ok o n => rw [hp1, hp2] at hrel; exact hrel.elim
      | err a' c' =>
        rw [hp1, hp2] at hrel
        obtain ⟨rfl, hpos⟩ := hrel
        obtain ⟨hc0, ha0, ha1⟩ := parse_bad hp1
        refine ev_of (fun m => hL.no _ _ m (by decide)) Tryd.func3 rfl rfl ?_
        by_cases hfirst : a' = a + ((Bm.ahead w).length : Int)
        · skip
          refine wc_seq (wc_region (wa rfl rfl (wo_nil (thenW_n (wc_seq (wc_seq (wc_region ?_)))))))
          refine wo_call rfl rfl (by kernel_rfl) (haw) rfl rfl ?_
          refine wo_n rfl (nv_not rfl rfl) rfl rfl (wo_nil (thenW_n (wc_false rfl (wc_skip (thenW_n (wc_seq (wc_region ?_)))))))
          refine wo_bslice rfl rfl rfl rfl rfl (by decide) rfl rfl ?_
          intro g1 m1 o1 f1 l1
          have hc : m1.cell g1 (0 + w * 1) = some (vs (txt (Bm.ahead w))) := by rcases hw4 with rfl | rfl | rfl | rfl <;> exact o1.cell (by kernel_rfl)
          have f1 := f1
          refine wm rfl rfl ?_
          refine wo_n rfl (nv_bin rfl rfl rfl ((show _ = some (V.int .i64 ((w : Nat) : Int)) by rcases hw4 with rfl | rfl | rfl | rfl <;> kernel_rfl))) rfl rfl ?_
          refine wo_n rfl (nv_ia rfl rfl rfl (ia_sl (by first | assumption | omega))) rfl rfl ?_
          refine wo_m rfl (mv_load rfl rfl (by assumption)) rfl rfl ?_
          refine wa rfl rfl (wo_nil (thenW_n (wc_seq (wc_region (wm rfl rfl (wm rfl rfl ?_))))))
          refine wo_n rfl (nv_saddL rfl rfl rfl (by (try simp only [List.length_append, List.length_cons, List.length_nil]); omega)) rfl rfl ?_
          refine wo_n rfl (nv_saddL rfl rfl (show _ = some (vs (txt [10])) by kernel_rfl) (by (try simp only [List.length_append, List.length_cons, List.length_nil]); omega)) rfl rfl ?_
          refine wm rfl rfl ?_
          refine wo_n rfl (nv_saddL rfl rfl rfl (by (try simp only [List.length_append, List.length_cons, List.length_nil]); omega)) rfl rfl ?_
          refine wa rfl rfl (wo_nil (thenW_n (wc_seq (wc_seq (wc_region (wm rfl rfl ?_))))))
          first
            | refine wo_n rfl (nv_lenL rfl rfl rfl) rfl rfl ?_
            | refine wo_n rfl (nv_lenT rfl rfl rfl) rfl rfl ?_
          refine wo_n rfl (nv_gtrF rfl rfl rfl (by first | assumption | decide | omega)) rfl rfl (wo_nil (thenW_n (wc_false rfl (wc_skip (thenW_n (wc_seq (wc_region (wm rfl rfl ?_))))))))
          obtain ⟨v1, q1, hv1, u1, r1⟩ := parse_spec (m := m1) hL hX (f1.nw hN) (by rw [f1.gl]; exact hg) s
          rw [hp1] at r1
          subst r1
          refine wo_call rfl rfl (by kernel_rfl) (hv1) rfl rfl ?_
          refine wm rfl rfl (wx rfl rfl rfl (wx rfl rfl rfl (wx rfl rfl rfl ?_)))
          refine wo_alloc rfl rfl rfl rfl ?_
          intro g2 m2 o2 f2 l2
          have f2 := f2
          have b2 := o2
          refine wo_store rfl rfl rfl rfl (by assumption) rfl (by first | rfl | assumption) (Nat.le_of_ble_eq_true rfl) rfl ?_
          intro m3 o3 f3 n3
          have f3 := f3
          have hg3 : Good m3.gl := by rw [f3.gl, f2.gl, u1.gl, f1.gl]; exact hg
          have hn3 : New m3 := f3.nw (f2.nw (u1.nw (f1.nw hN)))
          refine wa rfl rfl (wa rfl rfl (wo_nil (thenW_n (wc_seq (wc_region (wm rfl rfl ?_))))))
          obtain ⟨v2, q2, hv2, u2, r2⟩ := parse_spec (m := m3) hL hX hn3 hg3 t
          rw [hp2] at r2
          subst r2
          rw [← ht] at hv2
          refine wo_call rfl rfl (by kernel_rfl) (hv2) rfl rfl ?_
          refine wm rfl rfl (wx rfl rfl rfl (wx rfl rfl rfl (wx rfl rfl rfl ?_)))
          refine wo_alloc rfl rfl rfl rfl ?_
          intro g4 m4 o4 f4 l4
          skip
          refine wo_store rfl rfl rfl rfl (by assumption) rfl (by first | rfl | assumption) (Nat.le_of_ble_eq_true rfl) rfl ?_
          intro m5 o5 f5 n5
          skip
          refine wa rfl rfl (wa rfl rfl (wo_nil (thenW_n (wc_seq (wc_seq (wc_region (wm rfl rfl ?_)))))))
          refine wo_call rfl rfl (by kernel_rfl) (num_spec hL.no _ c') rfl rfl ?_
          refine wm rfl rfl ?_
          refine wo_call rfl rfl (by kernel_rfl) (num_spec hL.no _ c') rfl rfl ?_
          refine wo_n rfl (nv_neqF rfl rfl rfl (by first | assumption | decide | omega)) rfl rfl (wo_nil (thenW_n (wc_false rfl (wc_skip (thenW_n (wc_seq (wc_seq (wc_region (wm rfl rfl ?_)))))))))
          refine wo_call rfl rfl (by kernel_rfl) (num_spec hL.no _ c') rfl rfl ?_
          refine wo_n rfl (nv_neqT rfl rfl rfl (by first | assumption | decide | omega)) rfl rfl (wo_nil (thenW_n (wc_true rfl (wc_seq (wc_region (wm rfl rfl (wm rfl rfl (wm rfl rfl ?_))))))))
          first
            | refine wo_n rfl (nv_lenL rfl rfl rfl) rfl rfl ?_
            | refine wo_n rfl (nv_lenT rfl rfl rfl) rfl rfl ?_
          refine wo_n rfl (nv_add rfl rfl rfl rfl (by first | decide | omega) (by first | decide | omega)) rfl rfl ?_
          refine wo_n rfl (nv_eqlT rfl rfl rfl (by first | assumption | decide | omega)) rfl rfl (wm rfl rfl (wg rfl (wg rfl (wg rfl (wg rfl (wg rfl (wg rfl (wg rfl (wg rfl ?_)))))))))
          refine wg rfl (wg rfl (wp rfl rfl rfl (wa rfl rfl (wo_nil (thenW_n (wc_ret (thenW_r ?_)))))))
          refine endW_ret rfl rfl ?_
          rfl
        · have hsec : a = s.length ∧ a' = t.length := by
            rcases hpos with h | h
            · exact absurd h hfirst
            · exact h
          obtain ⟨hs1, hs2⟩ := hsec
          rw [← ht] at hs2
          refine wc_seq (wc_region (wa rfl rfl (wo_nil (thenW_n (wc_seq (wc_seq (wc_region ?_)))))))
          refine wo_call rfl rfl (by kernel_rfl) (haw) rfl rfl ?_
          refine wo_n rfl (nv_not rfl rfl) rfl rfl (wo_nil (thenW_n (wc_false rfl (wc_skip (thenW_n (wc_seq (wc_region ?_)))))))
          refine wo_bslice rfl rfl rfl rfl rfl (by decide) rfl rfl ?_
          intro g1 m1 o1 f1 l1
          have hc : m1.cell g1 (0 + w * 1) = some (vs (txt (Bm.ahead w))) := by rcases hw4 with rfl | rfl | rfl | rfl <;> exact o1.cell (by kernel_rfl)
          have f1 := f1
          refine wm rfl rfl ?_
          refine wo_n rfl (nv_bin rfl rfl rfl ((show _ = some (V.int .i64 ((w : Nat) : Int)) by rcases hw4 with rfl | rfl | rfl | rfl <;> kernel_rfl))) rfl rfl ?_
          refine wo_n rfl (nv_ia rfl rfl rfl (ia_sl (by first | assumption | omega))) rfl rfl ?_
          refine wo_m rfl (mv_load rfl rfl (by assumption)) rfl rfl ?_
          refine wa rfl rfl (wo_nil (thenW_n (wc_seq (wc_region (wm rfl rfl (wm rfl rfl ?_))))))
          refine wo_n rfl (nv_saddL rfl rfl rfl (by (try simp only [List.length_append, List.length_cons, List.length_nil]); omega)) rfl rfl ?_
          refine wo_n rfl (nv_saddL rfl rfl (show _ = some (vs (txt [10])) by kernel_rfl) (by (try simp only [List.length_append, List.length_cons, List.length_nil]); omega)) rfl rfl ?_
          refine wm rfl rfl ?_
          refine wo_n rfl (nv_saddL rfl rfl rfl (by (try simp only [List.length_append, List.length_cons, List.length_nil]); omega)) rfl rfl ?_
          refine wa rfl rfl (wo_nil (thenW_n (wc_seq (wc_seq (wc_region (wm rfl rfl ?_))))))
          first
            | refine wo_n rfl (nv_lenL rfl rfl rfl) rfl rfl ?_
            | refine wo_n rfl (nv_lenT rfl rfl rfl) rfl rfl ?_
          refine wo_n rfl (nv_gtrF rfl rfl rfl (by first | assumption | decide | omega)) rfl rfl (wo_nil (thenW_n (wc_false rfl (wc_skip (thenW_n (wc_seq (wc_region (wm rfl rfl ?_))))))))
          obtain ⟨v1, q1, hv1, u1, r1⟩ := parse_spec (m := m1) hL hX (f1.nw hN) (by rw [f1.gl]; exact hg) s
          rw [hp1] at r1
          subst r1
          refine wo_call rfl rfl (by kernel_rfl) (hv1) rfl rfl ?_
          refine wm rfl rfl (wx rfl rfl rfl (wx rfl rfl rfl (wx rfl rfl rfl ?_)))
          refine wo_alloc rfl rfl rfl rfl ?_
          intro g2 m2 o2 f2 l2
          have f2 := f2
          have b2 := o2
          refine wo_store rfl rfl rfl rfl (by assumption) rfl (by first | rfl | assumption) (Nat.le_of_ble_eq_true rfl) rfl ?_
          intro m3 o3 f3 n3
          have f3 := f3
          have hg3 : Good m3.gl := by rw [f3.gl, f2.gl, u1.gl, f1.gl]; exact hg
          have hn3 : New m3 := f3.nw (f2.nw (u1.nw (f1.nw hN)))
          refine wa rfl rfl (wa rfl rfl (wo_nil (thenW_n (wc_seq (wc_region (wm rfl rfl ?_))))))
          obtain ⟨v2, q2, hv2, u2, r2⟩ := parse_spec (m := m3) hL hX hn3 hg3 t
          rw [hp2] at r2
          subst r2
          rw [← ht] at hv2
          refine wo_call rfl rfl (by kernel_rfl) (hv2) rfl rfl ?_
          refine wm rfl rfl (wx rfl rfl rfl (wx rfl rfl rfl (wx rfl rfl rfl ?_)))
          refine wo_alloc rfl rfl rfl rfl ?_
          intro g4 m4 o4 f4 l4
          skip
          refine wo_store rfl rfl rfl rfl (by assumption) rfl (by first | rfl | assumption) (Nat.le_of_ble_eq_true rfl) rfl ?_
          intro m5 o5 f5 n5
          skip
          refine wa rfl rfl (wa rfl rfl (wo_nil (thenW_n (wc_seq (wc_seq (wc_region (wm rfl rfl ?_)))))))
          refine wo_call rfl rfl (by kernel_rfl) (num_spec hL.no _ c') rfl rfl ?_
          refine wm rfl rfl ?_
          refine wo_call rfl rfl (by kernel_rfl) (num_spec hL.no _ c') rfl rfl ?_
          refine wo_n rfl (nv_neqF rfl rfl rfl (by first | assumption | decide | omega)) rfl rfl (wo_nil (thenW_n (wc_false rfl (wc_skip (thenW_n (wc_seq (wc_seq (wc_region (wm rfl rfl ?_)))))))))
          refine wo_call rfl rfl (by kernel_rfl) (num_spec hL.no _ c') rfl rfl ?_
          refine wo_n rfl (nv_neqT rfl rfl rfl (by first | assumption | decide | omega)) rfl rfl (wo_nil (thenW_n (wc_true rfl (wc_seq (wc_region (wm rfl rfl (wm rfl rfl (wm rfl rfl ?_))))))))
          first
            | refine wo_n rfl (nv_lenL rfl rfl rfl) rfl rfl ?_
            | refine wo_n rfl (nv_lenT rfl rfl rfl) rfl rfl ?_
          refine wo_n rfl (nv_add rfl rfl rfl rfl (by first | decide | omega) (by first | decide | omega)) rfl rfl ?_
          refine wo_n rfl (nv_eqlF rfl rfl rfl (by first | assumption | decide | omega)) rfl rfl (wm rfl rfl (wm rfl rfl (wm rfl rfl ?_)))
          first
            | refine wo_n rfl (nv_lenL rfl rfl rfl) rfl rfl ?_
            | refine wo_n rfl (nv_lenT rfl rfl rfl) rfl rfl ?_
          refine wo_n rfl (nv_eqlT rfl rfl rfl (by first | assumption | decide | omega)) rfl rfl (wm rfl rfl (wm rfl rfl (wm rfl rfl ?_)))
          first
            | refine wo_n rfl (nv_lenL rfl rfl rfl) rfl rfl ?_
            | refine wo_n rfl (nv_lenT rfl rfl rfl) rfl rfl ?_
          refine wo_n rfl (nv_eqlT rfl rfl rfl (by first | assumption | decide | omega)) rfl rfl (wp rfl rfl rfl (wq rfl rfl rfl (wa rfl rfl (wo_nil (thenW_n (wc_ret (thenW_r ?_)))))))
          refine endW_ret rfl rfl ?_
          rfl
    | ok os ns =>
      cases hp2 : parseL t with
      | err a c => rw [hp1, hp2] at hrel; exact hrel.elim
      | ok os' ns' =>
        rw [hp1, hp2] at hrel
        obtain ⟨rfl, hns⟩ := hrel
        refine ev_of (fun m => hL.no _ _ m (by decide)) Tryd.func3 rfl rfl ?_
        refine wc_seq (wc_region (wa rfl rfl (wo_nil (thenW_n (wc_seq (wc_seq (wc_region ?_)))))))
        refine wo_call rfl rfl (by kernel_rfl) (haw) rfl rfl ?_
        refine wo_n rfl (nv_not rfl rfl) rfl rfl (wo_nil (thenW_n (wc_false rfl (wc_skip (thenW_n (wc_seq (wc_region ?_)))))))
        refine wo_bslice rfl rfl rfl rfl rfl (by decide) rfl rfl ?_
        intro g1 m1 o1 f1 l1
        have hc : m1.cell g1 (0 + w * 1) = some (vs (txt (Bm.ahead w))) := by rcases hw4 with rfl | rfl | rfl | rfl <;> exact o1.cell (by kernel_rfl)
        have f1 := f1
        refine wm rfl rfl ?_
        refine wo_n rfl (nv_bin rfl rfl rfl ((show _ = some (V.int .i64 ((w : Nat) : Int)) by rcases hw4 with rfl | rfl | rfl | rfl <;> kernel_rfl))) rfl rfl ?_
        refine wo_n rfl (nv_ia rfl rfl rfl (ia_sl (by first | assumption | omega))) rfl rfl ?_
        refine wo_m rfl (mv_load rfl rfl (by assumption)) rfl rfl ?_
        refine wa rfl rfl (wo_nil (thenW_n (wc_seq (wc_region (wm rfl rfl (wm rfl rfl ?_))))))
        refine wo_n rfl (nv_saddL rfl rfl rfl (by (try simp only [List.length_append, List.length_cons, List.length_nil]); omega)) rfl rfl ?_
        refine wo_n rfl (nv_saddL rfl rfl (show _ = some (vs (txt [10])) by kernel_rfl) (by (try simp only [List.length_append, List.length_cons, List.length_nil]); omega)) rfl rfl ?_
        refine wm rfl rfl ?_
        refine wo_n rfl (nv_saddL rfl rfl rfl (by (try simp only [List.length_append, List.length_cons, List.length_nil]); omega)) rfl rfl ?_
        refine wa rfl rfl (wo_nil (thenW_n (wc_seq (wc_seq (wc_region (wm rfl rfl ?_))))))
        first
          | refine wo_n rfl (nv_lenL rfl rfl rfl) rfl rfl ?_
          | refine wo_n rfl (nv_lenT rfl rfl rfl) rfl rfl ?_
        refine wo_n rfl (nv_gtrF rfl rfl rfl (by first | assumption | decide | omega)) rfl rfl (wo_nil (thenW_n (wc_false rfl (wc_skip (thenW_n (wc_seq (wc_region (wm rfl rfl ?_))))))))
        obtain ⟨v1, q1, hv1, u1, r1⟩ := parse_spec (m := m1) hL hX (f1.nw hN) (by rw [f1.gl]; exact hg) s
        rw [hp1] at r1
        obtain ⟨ov, nv, rfl, hP⟩ := r1
        obtain ⟨oO, oN, hro, hrn, _, _, _, hlN, hlO⟩ := hP.ex
        have one1 := one2 hro hrn
        refine wo_call rfl rfl (by kernel_rfl) (hv1) rfl rfl ?_
        refine wm rfl rfl (wx rfl rfl rfl (wx rfl rfl rfl (wx rfl rfl rfl ?_)))
        refine wo_alloc rfl rfl rfl rfl ?_
        intro g2 m2 o2 f2 l2
        have f2 := f2
        have b2 := o2
        have lg2 := l2
        refine wo_store rfl rfl rfl rfl (by assumption) rfl (by first | rfl | assumption) (Nat.le_of_ble_eq_true rfl) rfl ?_
        intro m3 o3 f3 n3
        have f3 := f3
        have b3 := o3
        have hg3 : Good m3.gl := by rw [f3.gl, f2.gl, u1.gl, f1.gl]; exact hg
        have hn3 : New m3 := f3.nw (f2.nw (u1.nw (f1.nw hN)))
        have hro3 := (hro.fr f2 (fun _ _ _ h => h)).fr f3 (fun x hx h e => by have h9 := hlO x h; have e9 : x = g2 := e; omega)
        have hrn3 := (hrn.fr f2 (fun _ _ _ h => h)).fr f3 (fun x hx h e => by have h9 := hlN x h; have e9 : x = g2 := e; omega)
        refine wa rfl rfl (wa rfl rfl (wo_nil (thenW_n (wc_seq (wc_region (wm rfl rfl ?_))))))
        obtain ⟨v2, q2, hv2, u2, r2⟩ := parse_spec (m := m3) hL hX hn3 hg3 t
        rw [hp2] at r2
        obtain ⟨ov', nv', rfl, hP'⟩ := r2
        obtain ⟨oO', oN', hro', hrn', _, _, _, hlN', hlO'⟩ := hP'.ex
        have one3 := one2 hro' hrn'
        have hro4 := hro3.fr u2 (fun _ _ _ h => h)
        have hrn4 := hrn3.fr u2 (fun _ _ _ h => h)
        have b4 := b3.fr u2 (fun h => h)
        rw [← ht] at hv2
        refine wo_call rfl rfl (by kernel_rfl) (hv2) rfl rfl ?_
        refine wm rfl rfl (wx rfl rfl rfl (wx rfl rfl rfl (wx rfl rfl rfl ?_)))
        refine wo_alloc rfl rfl rfl rfl ?_
        intro g4 m4 o4 f4 l4
        have f4 := f4
        have b5 := b4.fr f4 (fun h => h)
        have c5 := o4
        have hl2 := f2.le
        have hl3 := f3.le
        have hl4 := u2.le
        refine wo_store rfl rfl rfl rfl (by assumption) rfl (by first | rfl | assumption) (Nat.le_of_ble_eq_true rfl) rfl ?_
        intro m5 o5 f5 n5
        have f5 := f5
        have c6 := o5
        have b6 := b5.fr f5 (fun e => by have h1 := b4.lt; have e1 : g2 = g4 := e; omega)
        have ca := b6.cell (i := 1) rfl
        have cb := b6.cell (i := 0) rfl
        have cc := c6.cell (i := 1) rfl
        have cd := c6.cell (i := 0) rfl
        have hro6 := (hro4.fr f4 (fun _ _ _ h => h)).fr f5 (fun x hx h e => by have h9 := hlO x h; have e9 : x = g4 := e; omega)
        have hrn6 := (hrn4.fr f4 (fun _ _ _ h => h)).fr f5 (fun x hx h e => by have h9 := hlN x h; have e9 : x = g4 := e; omega)
        have hro6' := (hro'.fr f4 (fun _ _ _ h => h)).fr f5 (fun x hx h e => by have h9 := hlO' x h; have e9 : x = g4 := e; omega)
        have hrn6' := (hrn'.fr f4 (fun _ _ _ h => h)).fr f5 (fun x hx h e => by have h9 := hlN' x h; have e9 : x = g4 := e; omega)
        have hl5 := f4.le
        have hl6 := f5.le
        obtain ⟨ms, hms, fs⟩ := same_spec (m := m5) hL hrn6 hrn6' hns (fun x h => by have h9 := hlN x h; omega) (fun x h => by have h9 := hlN' x h; omega) hP.nl
        have ho7 := ops_spec (m := ms) hL (hro6.fr fs (fun _ _ _ h => h)) (hro6'.fr fs (fun _ _ _ h => h)) hP.ol
        have cb7 : ms.cell g2 0 = some ov := (b6.fr fs (fun h => h)).cell (i := 0) rfl
        have cd7 : ms.cell g4 0 = some ov' := (c6.fr fs (fun h => h)).cell (i := 0) rfl
        refine wa rfl rfl (wa rfl rfl (wo_nil (thenW_n (wc_seq (wc_seq (wc_region (wm rfl rfl ?_)))))))
        refine wo_call rfl rfl (by kernel_rfl) (num_spec hL.no _ 0) rfl rfl ?_
        refine wm rfl rfl ?_
        refine wo_call rfl rfl (by kernel_rfl) (num_spec hL.no _ 0) rfl rfl ?_
        refine wo_n rfl (nv_neqF rfl rfl rfl (by first | assumption | decide | omega)) rfl rfl (wo_nil (thenW_n (wc_false rfl (wc_skip (thenW_n (wc_seq (wc_seq (wc_region (wm rfl rfl ?_)))))))))
        refine wo_call rfl rfl (by kernel_rfl) (num_spec hL.no _ 0) rfl rfl ?_
        refine wo_n rfl (nv_neqF rfl rfl rfl (by first | assumption | decide | omega)) rfl rfl (wo_nil (thenW_n (wc_false rfl (wc_skip (thenW_n (wc_seq (wc_region (wf rfl rfl ?_))))))))
        refine wo_m rfl (mv_load rfl rfl (by assumption)) rfl rfl ?_
        refine wf rfl rfl ?_
        refine wo_m rfl (mv_load rfl rfl (by assumption)) rfl rfl ?_
        refine wo_call rfl rfl (by kernel_rfl) (hms) rfl rfl ?_
        refine wm rfl rfl (wf rfl rfl ?_)
        refine wo_m rfl (mv_load rfl rfl (by assumption)) rfl rfl ?_
        refine wf rfl rfl ?_
        refine wo_m rfl (mv_load rfl rfl (by assumption)) rfl rfl ?_
        refine wo_call rfl rfl (by kernel_rfl) (ho7) rfl rfl ?_
        refine wp rfl rfl rfl (wa rfl rfl (wo_nil (thenW_n (wc_ret ?_))))
        refine endW_ret rfl rfl ?_
        rfl
end
end Go.Proofs.YtppcjlplihiiiaaDoor.Sy

namespace Go.Proofs
open Go.Shelf
def Tryd.lays219_ren : Go.Shelf.Ren := ⟨fun | 219 => 55 | 217 => 54 | 225 => 64 | 224 => 65 | 267 => 66 | 266 => 63 | 314 => 71 | n => n, fun | 9 => 9 | 3 => 3 | 4 => 4 | 5 => 5 | 46 => 117 | 146 => 123 | 51 => 122 | n => n, fun | 1 => 1 | n => n⟩
theorem Tryd.lays219 : Go.Proofs.Lays.n219 Tryd.prog Tryd.lays219_ren := {
  mixed := by kernel_rfl
  f217 := Tryd.func54.trans (congrArg some (by kernel_rfl))
  f219 := Tryd.func55.trans (congrArg some (by kernel_rfl))
  f224 := Tryd.func65.trans (congrArg some (by kernel_rfl))
  f225 := Tryd.func64.trans (congrArg some (by kernel_rfl))
  f266 := Tryd.func63.trans (congrArg some (by kernel_rfl))
  f267 := Tryd.func66.trans (congrArg some (by kernel_rfl))
  f314 := Tryd.func71.trans (congrArg some (by kernel_rfl))
  t3 := Tryd.underlying3
  a3 := Tryd.isAgg3
  z3 := Tryd.sizeOf3
  v3 := Tryd.zeroValue3
  t4 := Tryd.underlying4
  a4 := Tryd.isAgg4
  z4 := Tryd.sizeOf4
  v4 := Tryd.zeroValue4
  t5 := Tryd.underlying5
  a5 := Tryd.isAgg5
  z5 := Tryd.sizeOf5
  v5 := Tryd.zeroValue5
  t9 := Tryd.underlying9
  a9 := Tryd.isAgg9
  z9 := Tryd.sizeOf9
  v9 := Tryd.zeroValue9
  t46 := Tryd.underlying117
  a46 := Tryd.isAgg117
  z46 := Tryd.sizeOf117
  v46 := Tryd.zeroValue117
  t51 := Tryd.underlying122
  a51 := Tryd.isAgg122
  z51 := Tryd.sizeOf122
  v51 := Tryd.zeroValue122
  t146 := Tryd.underlying123
  a146 := Tryd.isAgg123
  z146 := Tryd.sizeOf123
  v146 := Tryd.zeroValue123
  g1 := by kernel_rfl }
open Go.RowKit Go.Lib in
theorem Tryd.stringslite_Index (s sub : ByteArray) (m : Int) (w : World) (hs : s.size < 4294967281) (hm : w.cell? ⟨1, 0, none⟩ = some (.int .i64 m)) :
    Calls Tryd.prog 55 #[.string s, .string sub] w fun e w' => e = .returned (.int .i64 (Lib.index s.data.toList sub.data.toList)) ∧ w' = w := Any.stringslite_Index Tryd.lays219 s sub m w hs hm
def Tryd.laysM219_ren : Go.Shelf.Ren := ⟨fun | 219 => 55 | 217 => 54 | 225 => 64 | 224 => 65 | 267 => 66 | 266 => 63 | 314 => 71 | n => n, fun | 9 => 9 | 3 => 3 | 4 => 4 | 5 => 5 | 46 => 117 | 146 => 123 | 51 => 122 | n => n, fun | 1 => 1 | n => n⟩
theorem Tryd.laysM219 : Go.Proofs.LaysM.n219 Tryd.prog Tryd.laysM219_ren := {
  mixed := by kernel_rfl
  f217 := Tryd.func54.trans (congrArg some (by kernel_rfl))
  f219 := Tryd.func55.trans (congrArg some (by kernel_rfl))
  f224 := Tryd.func65.trans (congrArg some (by kernel_rfl))
  f225 := Tryd.func64.trans (congrArg some (by kernel_rfl))
  f266 := Tryd.func63.trans (congrArg some (by kernel_rfl))
  f267 := Tryd.func66.trans (congrArg some (by kernel_rfl))
  f314 := Tryd.func71.trans (congrArg some (by kernel_rfl))
  t3 := Tryd.underlying3
  a3 := Tryd.isAgg3
  z3 := Tryd.sizeOf3
  v3 := Tryd.zeroValue3
  t4 := Tryd.underlying4
  a4 := Tryd.isAgg4
  z4 := Tryd.sizeOf4
  v4 := Tryd.zeroValue4
  t5 := Tryd.underlying5
  a5 := Tryd.isAgg5
  z5 := Tryd.sizeOf5
  v5 := Tryd.zeroValue5
  t9 := Tryd.underlying9
  a9 := Tryd.isAgg9
  z9 := Tryd.sizeOf9
  v9 := Tryd.zeroValue9
  t46 := Tryd.underlying117
  a46 := Tryd.isAgg117
  z46 := Tryd.sizeOf117
  v46 := Tryd.zeroValue117
  t51 := Tryd.underlying122
  a51 := Tryd.isAgg122
  z51 := Tryd.sizeOf122
  v51 := Tryd.zeroValue122
  t146 := Tryd.underlying123
  a146 := Tryd.isAgg123
  z146 := Tryd.sizeOf123
  v146 := Tryd.zeroValue123
  g1 := by kernel_rfl
  i3 := by kernel_rfl
  i4 := by kernel_rfl
  i5 := by kernel_rfl
  i9 := by kernel_rfl
  i46 := by kernel_rfl
  i51 := by kernel_rfl
  i146 := by kernel_rfl
  m1 := by kernel_rfl
  s1_3 := fun w h => Go.Proofs.cell_of_shapedOpen_int (zero := #[.int .i64 0]) (t := 3) h (of_decide_eq_true (by kernel_rfl)) (by kernel_rfl) rfl (by kernel_rfl) (by kernel_rfl) Tryd.underlying3 }
end Go.Proofs

namespace Go.Proofs.YtppcjlplihiiiaaDoor.Ev
open Go Go.Ev
set_option linter.unusedVariables false
def tab : List (Nat × XK) := [(63, .indexByte), (76, .countByte), (49, .typeOf), (106, .rElem), (105, .rComparable), (107, .rImplements), (104, .rAssignable), (92, .aKind), (34, .valueOf), (35, .vType), (36, .vIsNil), (50, .vElem), (51, .vSet)]
def vars : List (Nat × Nat × V) := [(1, 0, .res .i64 1 0), (0, 0, .iface 98 (.agg [.gptr 4 44]))]
noncomputable def xb : XB := xbT Tryd.prog tab
theorem row63 : RowAt Tryd.prog 63 .indexByte Tryd.f63 := ⟨Tryd.func63, by kernel_rfl, by kernel_rfl, by kernel_rfl, fun h => by cases h⟩
theorem row76 : RowAt Tryd.prog 76 .countByte Tryd.f76 := ⟨Tryd.func76, by kernel_rfl, by kernel_rfl, by kernel_rfl, fun h => by cases h⟩
theorem row49 : RowAt Tryd.prog 49 .typeOf Tryd.f49 := ⟨Tryd.func49, by kernel_rfl, by kernel_rfl, by kernel_rfl, fun h => by cases h⟩
theorem row106 : RowAt Tryd.prog 106 .rElem Tryd.f106 := ⟨Tryd.func106, by kernel_rfl, by kernel_rfl, by kernel_rfl, fun h => by cases h⟩
theorem row105 : RowAt Tryd.prog 105 .rComparable Tryd.f105 := ⟨Tryd.func105, by kernel_rfl, by kernel_rfl, by kernel_rfl, fun h => by cases h⟩
theorem row107 : RowAt Tryd.prog 107 .rImplements Tryd.f107 := ⟨Tryd.func107, by kernel_rfl, by kernel_rfl, by kernel_rfl, fun h => by cases h⟩
theorem row104 : RowAt Tryd.prog 104 .rAssignable Tryd.f104 := ⟨Tryd.func104, by kernel_rfl, by kernel_rfl, by kernel_rfl, fun h => by cases h⟩
theorem row92 : RowAt Tryd.prog 92 .aKind Tryd.f92 := ⟨Tryd.func92, by kernel_rfl, by kernel_rfl, by kernel_rfl, fun h => by cases h⟩
theorem row34 : RowAt Tryd.prog 34 .valueOf Tryd.f34 := ⟨Tryd.func34, by kernel_rfl, by kernel_rfl, by kernel_rfl, fun h => by cases h⟩
theorem row35 : RowAt Tryd.prog 35 .vType Tryd.f35 := ⟨Tryd.func35, by kernel_rfl, by kernel_rfl, by kernel_rfl, fun h => by cases h⟩
theorem row36 : RowAt Tryd.prog 36 .vIsNil Tryd.f36 := ⟨Tryd.func36, by kernel_rfl, by kernel_rfl, by kernel_rfl, fun h => by cases h⟩
theorem row50 : RowAt Tryd.prog 50 .vElem Tryd.f50 := ⟨Tryd.func50, by kernel_rfl, by kernel_rfl, by kernel_rfl, fun h => by cases h⟩
theorem row51 : RowAt Tryd.prog 51 .vSet Tryd.f51 := ⟨Tryd.func51, by kernel_rfl, by kernel_rfl, by kernel_rfl, fun h => by cases h⟩
theorem xbOk : XBok Tryd.prog xb := xb_ok fun x hx => by
  simp only [tab, List.mem_cons, List.not_mem_nil, or_false] at hx
  rcases hx with rfl | rfl | rfl | rfl | rfl | rfl | rfl | rfl | rfl | rfl | rfl | rfl | rfl
  · exact ⟨_, row63⟩
  · exact ⟨_, row76⟩
  · exact ⟨_, row49⟩
  · exact ⟨_, row106⟩
  · exact ⟨_, row105⟩
  · exact ⟨_, row107⟩
  · exact ⟨_, row104⟩
  · exact ⟨_, row92⟩
  · exact ⟨_, row34⟩
  · exact ⟨_, row35⟩
  · exact ⟨_, row36⟩
  · exact ⟨_, row50⟩
  · exact ⟨_, row51⟩
noncomputable def ext0 : CallF := extIdx 55 1
theorem ext0Ok : CFok Tryd.prog ext0 := extIdx_ok fun s t k w h hm => Tryd.stringslite_Index s t k w h hm
theorem maxAt {W : World} (h : W.ShapedOpen Tryd.prog) : ∃ k, W.cell? ⟨1, 0, none⟩ = some (.int .i64 k) := Tryd.laysM219.s1_3 W h
theorem noNumB : (Tryd.prog.funcs.all fun fn => fn.body.isNone || !(fn.name == "runtime.NumGoroutine")) = true := by kernel_rfl
theorem noNum : NoNum Tryd.prog := fun f fn hf hb hn => by
  have := Array.all_eq_true'.1 noNumB fn (Array.mem_of_getElem? hf)
  rw [hn] at this
  cases h : fn.body with
  | none => rw [h] at hb; cases hb
  | some c => rw [h] at this; simp at this
theorem mixed : Tryd.prog.follows .mixedOrders = true := by kernel_rfl
theorem draws : DrawOkay Tryd.prog xb := drawOkay xbOk noNum mixed
theorem ok (ext : CallF) (h : CFok Tryd.prog ext) (n : Nat) : CFok Tryd.prog (funV Tryd.prog xb ext n) := funV_ok xbOk noNum draws h n
def memo0 : Nat × List V × Sl := (58, [.str 76 449953937865765044166353567075634855841265280582411279419178484766953766944035175598208298896301601961594016089577018897893736066317852013341495176030536989441380532204658237559960934, .str 1 32], ⟨9, [.str 3 7239014, .str 3 7628140, .str 3 6514034, .str 2 28265, .str 2 26217, .str 4 1852139636, .str 4 1702063205, .str 6 111516215828840, .str 4 1752459639, .str 6 121437875889522, .str 3 6581861, .str 2 28516, .str 2 28783, .str 4 1702195828, .str 5 435728179558, .str 3 7630441, .str 4 1819242338], 0, 17, 17, 1⟩)
theorem memo0_eval : slOk memo0.2.2 (funC Tryd.prog xb ext0 100000 memo0.1 memo0.2.1 (memOf vars) fun v m => some (v, m)) = true := by kernel_rfl
def memo1 : Nat × List V × Sl := (58, [.str 12 18608075407434323500137783339, .str 1 32], ⟨9, [.str 1 43, .str 1 45, .str 1 42, .str 1 47, .str 2 15677, .str 1 60], 0, 6, 6, 1⟩)
theorem memo1_eval : slOk memo1.2.2 (funC Tryd.prog xb ext0 100000 memo1.1 memo1.2.1 (memOf vars) fun v m => some (v, m)) = true := by kernel_rfl
def memo2 : Nat × List V × Sl := (46, [], ⟨9, [.str 4 1008745789, .str 3 2957355, .str 3 3088426], 0, 3, 3, 1⟩)
theorem memo2_eval : slOk memo2.2.2 (funC Tryd.prog xb ext0 100000 memo2.1 memo2.2.1 (memOf vars) fun v m => some (v, m)) = true := by kernel_rfl
def memos : List (Nat × List V × Sl) := [memo0, memo1, memo2]
noncomputable def ext1 : CallF := extTwo ext0 (extS vars memos)
theorem ext1Ok : CFok Tryd.prog ext1 := extTwo_ok ext0Ok <| extS_ok (ok _ ext0Ok 100000) fun x hx => by
  simp only [memos, List.mem_cons, List.not_mem_nil, or_false] at hx
  rcases hx with rfl | rfl | rfl
  · exact ⟨rfl, rfl, by rw [funV_of]; exact memo0_eval⟩
  · exact ⟨rfl, rfl, by rw [funV_of]; exact memo1_eval⟩
  · exact ⟨rfl, rfl, by rw [funV_of]; exact memo2_eval⟩
end Go.Proofs.YtppcjlplihiiiaaDoor.Ev

namespace Go.Ev
open Go
set_option linter.unusedVariables false
set_option linter.unusedSimpArgs false
noncomputable def blksV : Nat → List (Nat × List V) → T Blk
  | _, [] => .nil
  | i, (el, cs) :: r => (blksV (i + 1) r).set i (.cells ⟨i, cs.length, 0, el, 0, true, true, putL .nil 0 cs⟩)
noncomputable def famsV : Nat → List (Nat × List V) → T (List Nat)
  | _, [] => .nil
  | i, _ :: r => (famsV (i + 1) r).set i [i]
noncomputable def viewM (G : List (Nat × Nat × V)) (bs : List (Nat × List V)) : Mem := ⟨glL G, bs.length, blksV 0 bs, famsV 0 bs⟩
theorem blksV_get : ∀ (bs : List (Nat × List V)) (i b : Nat), (blksV i bs).get b = if i ≤ b then (bs[b - i]?).map (fun x => Blk.cells ⟨b, x.2.length, 0, x.1, 0, true, true, putL .nil 0 x.2⟩) else none := by
  intro bs
  induction bs with
  | nil => intro i b; simp [blksV, T.get_nil]
  | cons x r ih =>
    intro i b
    obtain ⟨el, cs⟩ := x
    simp only [blksV]
    rw [T.get_set, ih]
    by_cases hb : b = i
    · subst hb; simp
    · rw [if_neg hb]
      by_cases h1 : i + 1 ≤ b
      · rw [if_pos h1, if_pos (by omega)]
        congr 1
        obtain ⟨k, rfl⟩ : ∃ k, b = i + 1 + k := ⟨b - (i + 1), by omega⟩
        rw [show i + 1 + k - (i + 1) = k by omega, show i + 1 + k - i = k + 1 by omega]
        rfl
      · rw [if_neg h1, if_neg (by omega)]
theorem famsV_get : ∀ (bs : List (Nat × List V)) (i b : Nat), (famsV i bs).get b = if i ≤ b ∧ b - i < bs.length then some [b] else none := by
  intro bs
  induction bs with
  | nil => intro i b; simp [famsV, T.get_nil]
  | cons x r ih =>
    intro i b
    simp only [famsV]
    rw [T.get_set, ih]
    by_cases hb : b = i
    · subst hb; simp
    · rw [if_neg hb]
      by_cases h1 : i + 1 ≤ b ∧ b - (i + 1) < r.length
      · rw [if_pos h1, if_pos ⟨by omega, by simp; omega⟩]
      · rw [if_neg h1, if_neg (fun h => h1 ⟨by omega, by have := h.2; simp at this; omega⟩)]
theorem MR.view {G : List (Nat × Nat × V)} {bs : List (Nat × List V)} {w : World} (hG : ∀ g i v, glL G g i = some v → ∃ x, w.cell? ⟨g, i, none⟩ = some x ∧ Rel zeroS v x) (f : Nat → Option (Nat × Nat × Nat)) (hdom : ∀ b x, f b = some x → b < bs.length)
    (hcell : ∀ b x y, bs[b]? = some x → f b = some y → ∀ i v, x.2[i]? = some v → ∃ u, w.cell? ⟨y.1, y.2.1 + i, none⟩ = some u ∧ Rel ⟨f, 0⟩ v u) (hrng : ∀ b x, f b = some x → x.1 < w.heap.size) : MR w.heap.size (viewM G bs) ⟨f, 0⟩ w where
  lt := Nat.le_refl _
  dom := hdom
  bl b k cb o tt h hs := by
    have h1 := h.1
    show CellOk _ _ _ _ _ _ _
    unfold viewM at h1
    dsimp only at h1
    rw [blksV_get, if_pos (Nat.zero_le _), Nat.sub_zero] at h1
    cases hb : bs[b]? with
    | none => rw [hb] at h1; cases h1
    | some x =>
      rw [hb] at h1
      simp only [Option.map_some, Option.some.injEq, Blk.cells.injEq] at h1
      subst h1
      refine ⟨fun i v hi hv => ?_, fun h => by cases h⟩
      dsimp only at hi hv
      rw [putL_get, if_pos (by omega), Nat.sub_zero] at hv
      exact hcell b x _ hb hs i v hv
  mp r es h := by
    unfold viewM at h
    dsimp only at h
    rw [blksV_get, if_pos (Nat.zero_le _)] at h
    cases hb : bs[r - 0]? <;> rw [hb] at h <;> simp at h
  mps r r' es es' _ h := by
    unfold viewM at h
    dsimp only at h
    rw [blksV_get, if_pos (Nat.zero_le _)] at h
    cases hb : bs[r - 0]? <;> rw [hb] at h <;> simp at h
  fam b k h := by
    have h1 := h.1
    unfold viewM at h1
    dsimp only at h1
    rw [blksV_get, if_pos (Nat.zero_le _), Nat.sub_zero] at h1
    cases hb : bs[b]? with
    | none => rw [hb] at h1; cases h1
    | some x =>
      rw [hb] at h1
      simp only [Option.map_some, Option.some.injEq, Blk.cells.injEq] at h1
      subst h1
      have := (List.getElem?_eq_some_iff.1 hb).1
      refine ⟨[b], ?_, by simp⟩
      unfold viewM
      dsimp only
      rw [famsV_get, if_pos ⟨Nat.zero_le _, by omega⟩]
  chain f' ch h := by
    unfold viewM at h
    dsimp only at h
    rw [famsV_get] at h
    split at h
    · rename_i hc
      cases h
      have hlt : f' < bs.length := by omega
      refine ⟨by simp, fun b hb => ?_, by simp⟩
      simp at hb
      subst hb
      refine ⟨⟨b, (bs[b]).2.length, 0, (bs[b]).1, 0, true, true, putL .nil 0 (bs[b]).2⟩, ⟨?_, rfl⟩, rfl⟩
      unfold viewM
      dsimp only
      rw [blksV_get, if_pos (Nat.zero_le _), Nat.sub_zero, List.getElem?_eq_getElem hlt]
      rfl
    · cases h
  sep b b' k k' cb o o' tt tt' _ h h' _ _ := by
    refine .inl ⟨?_, ?_⟩
    · have h1 := h.1
      unfold viewM at h1
      dsimp only at h1
      rw [blksV_get, if_pos (Nat.zero_le _)] at h1
      cases hb : bs[b - 0]? with
      | none => rw [hb] at h1; cases h1
      | some x => rw [hb] at h1; simp only [Option.map_some, Option.some.injEq, Blk.cells.injEq] at h1; subst h1; rfl
    · have h1 := h'.1
      unfold viewM at h1
      dsimp only at h1
      rw [blksV_get, if_pos (Nat.zero_le _)] at h1
      cases hb : bs[b' - 0]? with
      | none => rw [hb] at h1; cases h1
      | some x => rw [hb] at h1; simp only [Option.map_some, Option.some.injEq, Blk.cells.injEq] at h1; subst h1; rfl
  new b hb := by
    have hb' : bs.length ≤ b := hb
    unfold viewM
    dsimp only
    rw [blksV_get, famsV_get, if_pos (Nat.zero_le _), if_neg (by omega), Nat.sub_zero, List.getElem?_eq_none hb']
    exact ⟨rfl, rfl⟩
  gl g i v h := by
    obtain ⟨x, h1, h2⟩ := hG g i v h
    refine ⟨?_, x, h1, h2⟩
    refine Classical.byContradiction fun hn => ?_
    have : w.heap[g]? = none := Array.getElem?_eq_none (by omega)
    simp [World.cell?, this] at h1
  rng := hrng
  nle := Nat.zero_le _
theorem view_ok {p : Program} {cf E : CallF} (hcf : CFok p cf) {G : List (Nat × Nat × V)} (hE : ∀ f args m v m', E f args m = some (v, m') → m' = m ∧ v.shut = true ∧ glOk G m = true ∧ ∃ bs args0 mr, cf f args0 (viewM G bs) = some (v, mr) ∧
    ∀ base σ w (us : Array Value), MR base m σ w → RelL σ args us.toList → ∃ g : Nat → Option (Nat × Nat × Nat), (∀ b x, g b = some x → b < bs.length) ∧ (∀ b x y, bs[b]? = some x → g b = some y → ∀ i v, x.2[i]? = some v → ∃ u, w.cell? ⟨y.1, y.2.1 + i, none⟩ = some u ∧ Rel ⟨g, 0⟩ v u) ∧ (∀ b x, g b = some x → x.1 < w.heap.size) ∧ RelL ⟨g, 0⟩ args0 us.toList) : CFok p E := by
  intro f args m v m' h base σ w us hM hr
  obtain ⟨rfl, hsh, hg, bs, args0, mr, h1, h2⟩ := hE f args m v m' h
  obtain ⟨g, d1, d2, d3, d4⟩ := h2 base σ w us hM hr
  have hV : MR w.heap.size (viewM G bs) ⟨g, 0⟩ w := MR.view (fun g i u hu => by
    have hmem := glL_mem hu
    unfold glOk at hg
    have := List.all_eq_true.1 hg _ hmem
    dsimp only at this
    split at this
    · rename_i u' hu'
      have := V.beq_eq _ _ this
      subst this
      exact (hM.gl g i u' hu').2
    · cases this) g d1 d2 d3
  refine (hcf f args0 _ v mr h1 w.heap.size _ w us hV d4).mono fun e w' he => ?_
  obtain ⟨x, σ', rfl, hR, hM', hT⟩ := he
  have hkeep : ∀ i, i < w.heap.size → w'.heap[i]? = w.heap[i]? := fun i hi => hT.keep i hi (.inl hi)
  exact ⟨x, σ, rfl, hR.shut hsh, hM.stay hT.size hkeep, ⟨σ.le_refl, fun b x h => .inl ⟨b, x, h, rfl⟩, hT.os, hT.tape, hT.output, hT.size, fun c hc _ => hkeep c hc, fun _ _ h => .inl h, rfl⟩⟩
noncomputable def extTold (G : List (Nat × Nat × V)) (told faultP errT wantP : Nat) : CallF := fun f args m => bif Nat.beq f told && glOk G m then (match args with
  | [.iface t (.ptr b 0)] => bif Nat.beq t faultP then (match m.cell b 0, m.cell b 1 with
    | some (.int .i64 a), some (.iface t1 (.int .i64 c)) => bif Nat.beq t1 errT then some (.tup [.int .i64 a, .int .i64 c], m) else none
    | some (.int .i64 a), some (.iface t1 (.ptr wb 0)) => bif Nat.beq t1 wantP then (match m.cell wb 0 with
      | some (.str l s) => some (.tup [.int .i64 a, .int .i64 403], m)
      | _ => none) else none
    | _, _ => none) else none
  | _ => none) else none
theorem cell_rel {base : Nat} {m : Mem} {σ : Sg} {w : World} (hM : MR base m σ w) {b i : Nat} {v : V} (h : m.cell b i = some v) {cb o tt : Nat} (hs : σ b = some (cb, o, tt)) : ∃ u, w.cell? ⟨cb, o + i, none⟩ = some u ∧ Rel σ v u := by
  unfold Mem.cell at h
  split at h
  · rename_i k hk
    simp only [bif_some, Nat.blt_eq] at h
    exact (hM.bl b k cb o tt ⟨hk, h.1⟩ hs).cell i v h.2.1 h.2.2
  · cases h
theorem extTold_ok {p : Program} {cf : CallF} (hcf : CFok p cf) {G : List (Nat × Nat × V)} {told faultP errT wantP faultT wantT : Nat} (h1 : ∀ a c, ∃ mr, cf told [.iface faultP (.ptr 0 0)] (viewM G [(faultT, [.int .i64 a, .iface errT (.int .i64 c)])]) = some (.tup [.int .i64 a, .int .i64 c], mr))
    (h2 : ∀ a l s, ∃ mr, cf told [.iface faultP (.ptr 0 0)] (viewM G [(faultT, [.int .i64 a, .iface wantP (.ptr 1 0)]), (wantT, [.str l s])]) = some (.tup [.int .i64 a, .int .i64 403], mr)) : CFok p (extTold G told faultP errT wantP) := by
  refine view_ok hcf (G := G) fun f args m v m' h => ?_
  unfold extTold at h
  simp only [bif_some, Bool.and_eq_true, Nat.beq_eq] at h
  obtain ⟨⟨rfl, hg⟩, h⟩ := h
  split at h
  case h_2 => cases h
  rename_i t b
  simp only [bif_some, Nat.beq_eq] at h
  obtain ⟨rfl, h⟩ := h
  split at h
  · rename_i a t1 c c0 c1
    simp only [bif_some, Nat.beq_eq, Option.some.injEq, Prod.mk.injEq] at h
    obtain ⟨rfl, rfl, rfl⟩ := h
    obtain ⟨mr, hmr⟩ := h1 a c
    refine ⟨rfl, rfl, hg, _, _, mr, hmr, fun base σ w us hM hr => ?_⟩
    obtain ⟨x, hx, hr1⟩ := hr.one
    cases hr1 with
    | iface t hp =>
    cases hp with
    | @ptr _ cb o tt _ hs =>
    obtain ⟨u0, e0, r0⟩ := cell_rel hM c0 hs
    obtain ⟨u1, e1, r1⟩ := cell_rel hM c1 hs
    refine ⟨fun q => if q = 0 then some (cb, o, tt) else none, fun q x hq => ?_, fun q x y hx hy i v hv => ?_, fun q x hq => ?_, ?_⟩
    · dsimp only at hq
      split at hq
      · simp; omega
      · cases hq
    · dsimp only at hy
      split at hy
      · rename_i hq
        subst hq
        cases hy
        simp at hx
        subst hx
        match i, hv with
        | 0, hv => simp at hv; subst hv; exact ⟨u0, e0, r0.shut rfl⟩
        | 1, hv => simp at hv; subst hv; exact ⟨u1, e1, r1.shut rfl⟩
      · cases hy
    · dsimp only at hq
      split at hq
      · cases hq; exact hM.rng b _ hs
      · cases hq
    · rw [hx]; exact .cons (.iface _ (.ptr 0 rfl)) (.nil _)
  · rename_i a t1 wb c0 c1
    simp only [bif_some, Nat.beq_eq] at h
    obtain ⟨rfl, h⟩ := h
    split at h
    case h_2 => cases h
    rename_i l s c2
    simp only [Option.some.injEq, Prod.mk.injEq] at h
    obtain ⟨rfl, rfl⟩ := h
    obtain ⟨mr, hmr⟩ := h2 a l s
    refine ⟨rfl, rfl, hg, _, _, mr, hmr, fun base σ w us hM hr => ?_⟩
    obtain ⟨x, hx, hr1⟩ := hr.one
    cases hr1 with
    | iface t hp =>
    cases hp with
    | @ptr _ cb o tt _ hs =>
    obtain ⟨u0, e0, r0⟩ := cell_rel hM c0 hs
    obtain ⟨u1, e1, r1⟩ := cell_rel hM c1 hs
    cases r1 with
    | iface _ r1 =>
    cases r1 with
    | @ptr _ cb2 o2 tt2 _ hs2 =>
    obtain ⟨u2, e2, r2⟩ := cell_rel hM c2 hs2
    refine ⟨fun q => if q = 0 then some (cb, o, tt) else if q = 1 then some (cb2, o2, tt2) else none, fun q x hq => ?_, fun q x y hx hy i v hv => ?_, fun q x hq => ?_, ?_⟩
    · dsimp only at hq
      split at hq
      · simp; omega
      · split at hq
        · simp; omega
        · cases hq
    · dsimp only at hy
      split at hy
      · rename_i hq
        subst hq
        cases hy
        simp at hx
        subst hx
        match i, hv with
        | 0, hv => simp at hv; subst hv; exact ⟨u0, e0, r0.shut rfl⟩
        | 1, hv => simp at hv; subst hv; exact ⟨_, e1, .iface _ (.ptr (o := o2) (tt := tt2) 0 rfl)⟩
      · split at hy
        · rename_i hq
          subst hq
          cases hy
          simp at hx
          subst hx
          match i, hv with
          | 0, hv => simp at hv; subst hv; exact ⟨u2, e2, r2.shut rfl⟩
        · cases hy
    · dsimp only at hq
      split at hq
      · cases hq; exact hM.rng b _ hs
      · split at hq
        · cases hq; exact hM.rng wb _ hs2
        · cases hq
    · rw [hx]; exact .cons (.iface _ (.ptr 0 rfl)) (.nil _)
  · cases h
end Go.Ev
namespace Go.Ev
open Go
theorem told_of {p : Program} {xb : XB} {ext : CallF} {n : Nat} {f : FuncId} {args : List V} {m m0 : Mem} {u : V} (h : (funC p xb ext n f args m fun v _ => some (v, m0)) = some (u, m0)) : ∃ m', funV p xb ext n f args m = some (u, m') := by
  rw [funC_eq] at h
  cases hf : funV p xb ext n f args m with
  | none => rw [hf] at h; cases h
  | some r =>
    rw [hf] at h
    obtain ⟨v, m'⟩ := r
    have : v = u := (Prod.mk.inj (Option.some.inj h)).1
    subst this
    exact ⟨m', rfl⟩
theorem extTwo_none {a b : CallF} {f : FuncId} {args : List V} {m : Mem} (h1 : a f args m = none) (h2 : b f args m = none) : extTwo a b f args m = none := by
  unfold extTwo; rw [h1]; exact h2
theorem extTwo_right {a b : CallF} {f : FuncId} {args : List V} {m : Mem} {r : Option (V × Mem)} (h1 : a f args m = none) (h2 : b f args m = r) : extTwo a b f args m = r := by
  unfold extTwo; rw [h1]; exact h2
theorem extTwo_left {a b : CallF} {f : FuncId} {args : List V} {m : Mem} {r : V × Mem} (h1 : a f args m = some r) : extTwo a b f args m = some r := by
  unfold extTwo; rw [h1]
theorem beqF {a b : Nat} (h : a ≠ b) : Nat.beq a b = false := by rw [← Bool.not_eq_true, Nat.beq_eq]; exact h
theorem extIdx_none {i g f : Nat} {args : List V} {m : Mem} (h : f ≠ i) : extIdx i g f args m = none := by
  unfold extIdx; rw [beqF h]; rfl
theorem extTold_none {G : List (Nat × Nat × V)} {t a b c f : Nat} {args : List V} {m : Mem} (h : f ≠ t) : extTold G t a b c f args m = none := by
  unfold extTold; rw [beqF h]; rfl
theorem extL_none {G : List (Nat × Nat × V)} {f : Nat} {args : List V} {m : Mem} : ∀ {L : List (Nat × List V × V)}, (∀ x, x ∈ L → x.1 ≠ f) → extL G L f args m = none := by
  intro L
  induction L with
  | nil => intro _; rfl
  | cons x L ih =>
    intro h
    obtain ⟨a, b, c⟩ := x
    simp only [extL]
    rw [beqF (h (a, b, c) (by simp))]
    exact ih fun y hy => h y (by simp [hy])
theorem extS_none {G : List (Nat × Nat × V)} {f : Nat} {args : List V} {m : Mem} : ∀ {L : List (Nat × List V × Sl)}, (∀ x, x ∈ L → x.1 ≠ f) → extS G L f args m = none := by
  intro L
  induction L with
  | nil => intro _; rfl
  | cons x L ih =>
    intro h
    obtain ⟨a, b, c⟩ := x
    simp only [extS]
    rw [beqF (h (a, b, c) (by simp))]
    exact ih fun y hy => h y (by simp [hy])
theorem extIdx_eval {i g : Nat} {la a lb b : Nat} {m : Mem} (hg : m.gl g 0 = some (.res .i64 1 0)) (hl : la < 4294967281) : extIdx i g i [.str la a, .str lb b] m = some (.int .i64 (findSub a la b lb (la + 1) 0), m) := by
  unfold extIdx
  rw [Nat.beq_refl, cond_true, hg]
  show (bif Nat.blt la 4294967281 then some (V.int .i64 (findSub a la b lb (la + 1) 0), m) else none) = _
  rw [show Nat.blt la 4294967281 = true by rw [Nat.blt_eq]; exact hl]
  rfl
end Go.Ev
