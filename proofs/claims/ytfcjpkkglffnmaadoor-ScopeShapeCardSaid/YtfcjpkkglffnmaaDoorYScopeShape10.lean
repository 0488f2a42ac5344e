/- Several texts in one: contracts of functions of the program, and what they lean on. In part written by a program of this session over the kit's print, in part by hand. -/
import Derived.Test.YtfcjpkkglffnmaaDoorYScopeShape6
import Derived.Test.YtfcjpkkglffnmaaDoorYScopeShape8
import Derived.Test.YtfcjpkkglffnmaaDoorYScopeShape9
set_option linter.unusedVariables false
set_option linter.unusedSimpArgs false
set_option maxRecDepth 100000
namespace Go.Proofs.YtfcjpkkglffnmaaDoor.H
open Go.RowKit Go.Proofs.YtfcjpkkglffnmaaDoorW.PrintWords Go.Proofs.YtfcjpkkglffnmaaDoorW.PrintLast Go.Proofs.YtfcjpkkglffnmaaDoorW.PrintMore
theorem shape_loop (os : List S45) (l : List S34) (os2 : List S45) (m : List S34) (h512 : l.length ≤ 512) (hlm : m.length = l.length) (hd : Done l m 0 l.length) : ∀ (n i k : Nat), l.length - i = n → i ≤ l.length → n < k →
    trammellaw6_ScopeShape.l0 k (i : Int) os l os2 m = some true := by
  intro n
  induction n with
  | zero =>
    intro i k hn hi hk
    obtain ⟨k, rfl⟩ : ∃ q, k = q + 1 := ⟨k - 1, by omega⟩
    rw [trammellaw6_ScopeShape.l0, if_neg (by omega)]
  | succ n ih =>
    intro i k hn hi hk
    obtain ⟨k, rfl⟩ : ∃ q, k = q + 1 := ⟨k - 1, by omega⟩
    obtain ⟨x, v, hx, hm, hv⟩ := hd i (Nat.zero_le _) (by omega)
    have hem : (((⟨#[]⟩ : ByteArray) ++ (⟨#[]⟩ : ByteArray)) ++ (⟨#[]⟩ : ByteArray)) ++ (⟨#[]⟩ : ByteArray) = (⟨#[]⟩ : ByteArray) := by decide +kernel
    rw [trammellaw6_ScopeShape.l0, rd_some l i x hx, rd_some m i _ hm, if_pos (by omega), if_pos (by omega), if_pos (by omega)]
    have e5 : (blankN x v).f5 = (⟨#[]⟩ : ByteArray) := rfl
    have e6 : (blankN x v).f6 = (⟨#[]⟩ : ByteArray) := rfl
    have e7 : (blankN x v).f7 = (⟨#[]⟩ : ByteArray) := rfl
    have e8 : (blankN x v).f8 = (⟨#[]⟩ : ByteArray) := rfl
    have e0 : x.f0 = (blankN x v).f0 := rfl
    have e1 : x.f1 = (blankN x v).f1 := rfl
    have e2 : x.f2 = (blankN x v).f2 := rfl
    have e3 : x.f3 = (blankN x v).f3 := rfl
    have e9 : x.f9 = (blankN x v).f9 := rfl
    have e4 : ¬ (blankN x v).f4 < 0 := by show ¬ v < 0; have := hv.1; omega
    rw [e5, e6, e7, e8, if_pos (by decide +kernel), if_pos (by decide +kernel), if_pos (by decide +kernel), if_pos (by rw [hem, toList_data]), if_pos e0, if_pos e1, if_pos e2, if_pos e3, if_pos e9, if_neg e4]
    rw [show wrap64 ((i : Int) + 1) = ((i + 1 : Nat) : Int) from by unfold wrap64; omega]
    exact ih (i + 1) k (by omega) (by omega) (by omega)
theorem ScopeShape_pure (os : List S45) (l : List S34) : ∃ k, trammellaw6_ScopeShape.f k os l = some true := by
  obtain ⟨r1, r2, r3, r4, hr, h⟩ := resolve_does os l 2200 (Nat.le_refl _)
  refine ⟨2200, ?_⟩
  unfold trammellaw6_ScopeShape.f
  rw [at_rounds trammellaw6_awake.mono (by decide : 1300 ≤ 2200) trammellaw6_awake.is, Option.bind_some, if_pos rfl, hr, Option.bind_some]
  dsimp only
  rw [show trammellaw0_Num.f r4 = some r4 from rfl, Option.bind_some]
  rcases h with ⟨_, rfl, rfl, rfl, rfl⟩ | ⟨_, h4, rfl, rfl, h3⟩ | ⟨ht, htw, rfl, rfl, rfl, hlm, hd, hw⟩
  · rw [if_neg (by decide), if_pos (by decide +kernel)]
    rfl
  · rw [if_neg (by omega), if_pos (by decide +kernel)]
    simp [h3]
  · have ht2 := ht
    simp only [treeMayS, Bool.and_eq_true] at ht2
    obtain ⟨h1, h512, _, _⟩ := shaped_parts l true ht2.2
    obtain ⟨h4, _⟩ := ops_small r1 ht2.1
    rw [if_pos rfl, resolved_may r1 l r2 2200 (Nat.le_refl _) ht htw hlm hd hw, Option.bind_some, if_pos rfl, if_pos rfl, if_pos (by omega), sameO_self r1 2200 (by omega) (by omega), Option.bind_some]
    show trammellaw6_ScopeShape.j0 2200 false _ _ _ _ = _
    rw [trammellaw6_ScopeShape.j0, if_neg (by simp)]
    exact shape_loop r1 l r1 r2 h512 hlm hd l.length 0 2199 rfl (Nat.zero_le _) (by omega)
end Go.Proofs.YtfcjpkkglffnmaaDoor.H
