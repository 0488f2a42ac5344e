/- Several texts in one: contracts of functions of the program, and what they lean on. In part written by a program of this session over the kit's print, in part by hand. -/
import Derived.Test.YtfcjpkkglffnmaaDoorYScopeNames6
import Derived.Test.YtfcjpkkglffnmaaDoorYScopeNames8
import Derived.Test.YtfcjpkkglffnmaaDoorYScopeNames9
set_option linter.unusedVariables false
set_option linter.unusedSimpArgs false
set_option maxRecDepth 100000
namespace Go.Proofs.YtfcjpkkglffnmaaDoor.H
open Go.RowKit Go.Proofs.YtfcjpkkglffnmaaDoorW.PrintWords Go.Proofs.YtfcjpkkglffnmaaDoorW.PrintLast Go.Proofs.YtfcjpkkglffnmaaDoorW.PrintMore
def mixN (l : List S34) (i : Nat) : List S34 := (l.take i).map ren ++ l.drop i
theorem mix_len (l : List S34) (i : Nat) : (mixN l i).length = l.length := by
  unfold mixN
  rw [List.length_append, List.length_map, List.length_take, List.length_drop]
  omega
theorem mix_get (l : List S34) (i : Nat) (hi : i < l.length) : (mixN l i)[i]? = some l[i] := by
  unfold mixN
  have e : ((l.take i).map ren).length = i := by rw [List.length_map, List.length_take]; omega
  rw [List.getElem?_append_right (by omega), e, Nat.sub_self, List.getElem?_drop, Nat.add_zero, List.getElem?_eq_getElem hi]
theorem mix_set (l : List S34) (i : Nat) (hi : i < l.length) : (mixN l i).set i (ren l[i]) = mixN l (i + 1) := by
  unfold mixN
  have e : ((l.take i).map ren).length = i := by rw [List.length_map, List.length_take]; omega
  rw [List.set_append_right _ _ (by omega), e, Nat.sub_self, List.drop_eq_getElem_cons hi, List.set_cons_zero, List.take_succ_eq_append_getElem hi, List.map_append, List.append_assoc]
  rfl
def smallN (x : S34) : Prop := x.f5.size ≤ 140737488351232 ∧ x.f6.size ≤ 140737488351232 ∧ x.f7.size ≤ 140737488351232 ∧ x.f8.size ≤ 140737488351232
theorem names_last (os : List S45) (l : List S34) (hs : ∀ x ∈ l, shortN x) (K : Nat) (hK : 4300 ≤ K) : trammellaw6_ScopeNames.l0 (K + 1) (l.length : Int) os l os (l.map ren) = some true := by
  obtain ⟨r1, r2, r3, r4, hr, hc⟩ := resolve_does os l K (by omega)
  rw [trammellaw6_ScopeNames.l0, if_neg (by rw [List.length_map]; omega), hr, Option.bind_some]
  rcases hc with ⟨_, rfl, _⟩ | hc
  · obtain ⟨q1, q2, q3, q4, hq, _⟩ := resolve_does os (l.map ren) K (by omega)
    rw [hq, Option.bind_some]
    dsimp only
    rw [show trammellaw0_Num.f 600 = some 600 from rfl, Option.bind_some, if_pos rfl]
  · have ht : treeMayS os l = true := by rcases hc with h | h <;> exact h.1
    have ht2 := ht
    simp only [treeMayS, Bool.and_eq_true] at ht2
    obtain ⟨h4, _⟩ := ops_small os ht2.1
    obtain ⟨h1, h512, _, _⟩ := shaped_parts l true ht2.2
    have h6 : ¬ r4 = 600 := by rcases hc with h | h <;> omega
    have hl1 : r1.length ≤ 4 ∧ r2.length ≤ 512 := by
      rcases hc with ⟨_, _, rfl, rfl, _⟩ | ⟨_, _, _, rfl, _, hlm, _⟩
      · simp
      · exact ⟨h4, by omega⟩
    rw [resolve_ren os l ht hs K hK _ hr, Option.bind_some]
    dsimp only
    rw [show trammellaw0_Num.f r4 = some r4 from rfl, Option.bind_some, if_neg h6]
    have hS : trammellaw0_SameProgram.f K r1 r2 r1 r2 = some true := by
      unfold trammellaw0_SameProgram.f
      rw [sameO_self r1 K (by omega) (by omega), Option.bind_some, if_pos rfl, sameN_is r2 r2 K (by omega) (by omega), (eqNodes_iff r2 r2).2 rfl]
      rfl
    rw [hS, Option.bind_some, if_pos rfl, if_pos rfl, Option.bind_some, Option.bind_some]
    simp
theorem names_loop (os : List S45) (l : List S34) (hl : l.length ≤ 1256584717458) (hz : ∀ x ∈ l, smallN x) (K : Nat) (hK : 4300 ≤ K) : ∀ (n i : Nat), l.length - i = n → i ≤ l.length → (∀ x ∈ l.take i, shortN x) →
    trammellaw6_ScopeNames.l0 (K + 5 * n + 1) (i : Int) os l os (mixN l i) = some true := by
  intro n
  induction n with
  | zero =>
    intro i hn hi hs
    obtain rfl : i = l.length := by omega
    rw [List.take_length] at hs
    have e : mixN l l.length = l.map ren := by unfold mixN; rw [List.take_length, List.drop_length, List.append_nil]
    rw [e]
    exact names_last os l hs K hK
  | succ n ih =>
    intro i hn hi hs
    have hlt : i < l.length := by omega
    have hget := rd_some (mixN l i) i _ (mix_get l i hlt)
    have hlen := mix_len l i
    obtain ⟨z5, z6, z7, z8⟩ := hz l[i] (List.getElem_mem hlt)
    have hset := mix_set l i hlt
    have hnext : shortN l[i] → trammellaw6_ScopeNames.l0 (K + 5 * n + 1) ((i + 1 : Nat) : Int) os l os (mixN l (i + 1)) = some true := fun hsh => by
      refine ih (i + 1) (by omega) (by omega) (fun x hx => ?_)
      rw [List.take_succ_eq_append_getElem hlt, List.mem_append] at hx
      rcases hx with hx | hx
      · exact hs x hx
      · rw [List.mem_singleton.1 hx]
        exact hsh
    rw [show K + 5 * (n + 1) + 1 = K + 5 * n + 1 + 1 + 1 + 1 + 1 + 1 from by omega, trammellaw6_ScopeNames.l0, hget, if_pos (by omega), if_pos (by omega)]
    rw [← hset] at hnext
    generalize l[i] = x at *
    have w5 : wrap64 ((x.f5.size : Int) + 1) = (x.f5.size : Int) + 1 := by unfold wrap64; omega
    have w6 : wrap64 ((x.f6.size : Int) + 1) = (x.f6.size : Int) + 1 := by unfold wrap64; omega
    have w7 : wrap64 ((x.f7.size : Int) + 1) = (x.f7.size : Int) + 1 := by unfold wrap64; omega
    have w8 : wrap64 ((x.f8.size : Int) + 1) = (x.f8.size : Int) + 1 := by unfold wrap64; omega
    rw [w5, w6, w7, w8]
    clear w5 w6 w7 w8
    by_cases g5 : (x.f5.size : Int) + 1 > 16
    · rw [if_pos g5, trammellaw6_ScopeNames.j1, if_pos rfl]
    · rw [if_neg g5]
      by_cases g6 : (x.f6.size : Int) + 1 > 16
      · rw [if_pos g6, trammellaw6_ScopeNames.j1, if_pos rfl]
      · rw [if_neg g6]
        by_cases g7 : (x.f7.size : Int) + 1 > 16
        · rw [if_pos g7, trammellaw6_ScopeNames.j1, if_pos rfl]
        · rw [if_neg g7]
          by_cases g8 : (x.f8.size : Int) + 1 > 16
          · rw [decide_eq_true g8, trammellaw6_ScopeNames.j1, if_pos rfl]
          · rw [decide_eq_false g8, trammellaw6_ScopeNames.j1, if_neg (by simp)]
            have hn2 := hnext ⟨by omega, by omega, by omega, by omega⟩
            have hp0 : (0 : Int) ≤ (i : Int) := Int.natCast_nonneg i
            have hp1 : (i : Int) < ((mixN l i).length : Int) := by rw [hlen]; exact Int.ofNat_lt.2 hlt
            have hren : (⟨x.f0, x.f1, x.f2, x.f3, x.f4, (ren x).f5, (ren x).f6, (ren x).f7, (ren x).f8, x.f9⟩ : S34) = ren x := rfl
            have q5 : x.f5.size + 1 ≤ 9223372036854775807 := by omega
            have q6 : x.f6.size + 1 ≤ 9223372036854775807 := by omega
            have q7 : x.f7.size + 1 ≤ 9223372036854775807 := by omega
            have q8 : x.f8.size + 1 ≤ 9223372036854775807 := by omega
            have hw : wrap64 ((i : Int) + 1) = ((i + 1 : Nat) : Int) := by unfold wrap64; omega
            have e4 : ∀ f5 : ByteArray, f5 = (ren x).f5 → trammellaw6_ScopeNames.j3 (K + 5 * n + 1 + 1 + 1) (i : Int) os l os (mixN l i) x.f0 x.f1 x.f2 x.f3 x.f4 f5 x.f6 x.f7 x.f8 x.f9 = some true := by
              intro f5 hf5
              have e3 : ∀ f6 : ByteArray, f6 = (ren x).f6 → trammellaw6_ScopeNames.j4 (K + 5 * n + 1 + 1) (i : Int) os l os (mixN l i) x.f0 x.f1 x.f2 x.f3 x.f4 f5 f6 x.f7 x.f8 x.f9 = some true := by
                intro f6 hf6
                have fin : ∀ f7 f8 : ByteArray, f7 = (ren x).f7 → f8 = (ren x).f8 → (if 0 ≤ (i : Int) then (if (i : Int) < ((mixN l i).length : Int) then (trammellaw6_ScopeNames.l0 (K + 5 * n + 1) (wrap64 ((i : Int) + 1)) os l os ((mixN l i).set (i : Int).toNat (⟨x.f0, x.f1, x.f2, x.f3, x.f4, f5, f6, f7, f8, x.f9⟩ : S34))) else none) else none) = some true := by
                  intro f7 f8 hf7 hf8
                  rw [if_pos hp0, if_pos hp1, hw, Int.toNat_natCast, hf5, hf6, hf7, hf8, hren]
                  exact hn2
                rw [trammellaw6_ScopeNames.j4]
                by_cases a7 : x.f7.toList = []
                · have r7 : x.f7 = (ren x).f7 := by show x.f7 = rn x.f7; unfold rn; rw [if_pos a7]
                  rw [if_pos a7]
                  by_cases a8 : x.f8.toList = []
                  · rw [if_pos a8]
                    exact fin _ _ r7 (by show x.f8 = rn x.f8; unfold rn; rw [if_pos a8])
                  · rw [if_neg a8, if_pos q8]
                    exact fin _ _ r7 (by show _ = rn x.f8; unfold rn; rw [if_neg a8])
                · have r7 : x.f7 ++ (⟨#[95]⟩ : ByteArray) = (ren x).f7 := by show _ = rn x.f7; unfold rn; rw [if_neg a7]
                  rw [if_neg a7, if_pos q7]
                  by_cases a8 : x.f8.toList = []
                  · rw [if_pos a8]
                    exact fin _ _ r7 (by show x.f8 = rn x.f8; unfold rn; rw [if_pos a8])
                  · rw [if_neg a8, if_pos q8]
                    exact fin _ _ r7 (by show _ = rn x.f8; unfold rn; rw [if_neg a8])
              rw [trammellaw6_ScopeNames.j3]
              by_cases a6 : x.f6.toList = []
              · rw [if_pos a6]
                exact e3 _ (by show x.f6 = rn x.f6; unfold rn; rw [if_pos a6])
              · rw [if_neg a6, if_pos q6]
                exact e3 _ (by show _ = rn x.f6; unfold rn; rw [if_neg a6])
            by_cases a5 : x.f5.toList = []
            · rw [if_pos a5, trammellaw6_ScopeNames.j2, if_neg (by simp)]
              refine e4 _ ?_
              show x.f5 = (if x.f0 = 0 then rn x.f5 else x.f5)
              split
              · unfold rn; rw [if_pos a5]
              · rfl
            · rw [if_neg a5, trammellaw6_ScopeNames.j2]
              by_cases c0 : x.f0 = 0
              · rw [if_pos (by simpa using c0), if_pos q5]
                refine e4 _ ?_
                show _ = (if x.f0 = 0 then rn x.f5 else x.f5)
                rw [if_pos c0]
                unfold rn; rw [if_neg a5]
              · rw [if_neg (by simpa using c0)]
                refine e4 _ ?_
                show _ = (if x.f0 = 0 then rn x.f5 else x.f5)
                rw [if_neg c0]
theorem ScopeNames_pure (os : List S45) (l : List S34) (z0 : os.length * 32 ≤ 140737488351232) (z1 : l.length * 112 ≤ 140737488351232) (hz : ∀ x ∈ l, smallN x) : ∃ k, trammellaw6_ScopeNames.f k os l = some true := by
  refine ⟨4300 + 5 * l.length + 1, ?_⟩
  unfold trammellaw6_ScopeNames.f
  rw [at_rounds trammellaw6_awake.mono (by omega : 1300 ≤ 4300 + 5 * l.length + 1) trammellaw6_awake.is, Option.bind_some, if_pos rfl]
  have h1 : trammellaw0_CopyOps.f os = some os := by
    unfold trammellaw0_CopyOps.f
    rw [Option.bind_some, if_pos (by simp; omega)]
    rfl
  have h2 : trammellaw0_CopyNodes.f l = some l := by
    unfold trammellaw0_CopyNodes.f
    rw [Option.bind_some, if_pos (by simp; omega)]
    rfl
  rw [h1, Option.bind_some, h2, Option.bind_some]
  have h := names_loop os l (by omega) hz 4300 (Nat.le_refl _) l.length 0 rfl (Nat.zero_le _) (by simp)
  rw [show mixN l 0 = l from by simp [mixN], show ((0 : Nat) : Int) = 0 from rfl] at h
  exact h
end Go.Proofs.YtfcjpkkglffnmaaDoor.H
