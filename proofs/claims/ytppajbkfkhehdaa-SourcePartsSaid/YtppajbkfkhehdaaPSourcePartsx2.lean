-- PRINTED BY print.sh 35421559b90ae4d0a3588c463048766b98c2df88dd9212a6774a882060cdf62d: not written by this session
import Derived.Test.YtppajbkfkhehdaaPSourcePartsx0
import Derived.Test.YtppajbkfkhehdaaPSourcePartsx1
namespace Go.Proofs.Ytppajbkfkhehdaa.PSourceParts
open Go.RowKit Go.Proofs.YtppajbkfkhehdaaW.PrintWords Go.Proofs.YtppajbkfkhehdaaW.PrintLast Go.Proofs.YtppajbkfkhehdaaW.PrintMore
attribute [local go_sem] max2_int min2_int max_two min_two max_three min_three max_four min_four   -- for this text's walks alone
set_option linter.unusedVariables false
set_option linter.unusedSimpArgs false

/-! ### trammellaw1_awake: function 13 -/
def trammellaw1_awake.f (k : Nat)  : Option (Bool) := (source_Valid.f k (⟨#[97, 195, 169, 226, 130, 172, 240, 159, 152, 128]⟩ : ByteArray)).bind fun bt109 => ((source_Valid.f k (⟨#[97, 98, 237, 160, 128]⟩ : ByteArray)).bind fun bt111 => ((source_Valid.f k (⟨#[120, 195]⟩ : ByteArray)).bind fun bt113 => ((source_Width.f k (⟨#[226, 130, 172]⟩ : ByteArray) 0).bind fun bt115 => ((source_Width.f k (⟨#[226, 130, 172]⟩ : ByteArray) 1).bind fun bt117 => ((source_Width.f k (⟨#[97]⟩ : ByteArray) 1).bind fun bt119 => (if bt109.1 = 0 then (if bt109.2 = true then (if bt111.1 = 2 then (if bt111.2 = true then (some false) else (if bt113.1 = 1 then (if bt113.2 = true then (some false) else (if bt115.1 = 3 then ((trammellaw0_Num.f bt115.2).bind fun t121 => (if t121 = 0 then ((trammellaw0_Num.f bt117.2).bind fun t122 => (if t122 = 100 then ((trammellaw0_Num.f bt119.2).bind fun t123 => (some (t123 == 100))) else (some false))) else (some false))) else (some false))) else (some false))) else (some false)) else (some false)) else (some false)))))))
theorem trammellaw1_awake.mono : ∀ k, LeO (trammellaw1_awake.f k ) (trammellaw1_awake.f (k + 1) ) := by
  intro  k
  unfold trammellaw1_awake.f
  repeat' first
      | (with_reducible exact source_Valid.mono _ _)
      | (with_reducible exact source_Width.mono _ _ _)
      | (with_reducible exact LeO.refl _)
      | (with_reducible exact LeO.none _)
      | (with_reducible refine LeO.ite ?_ ?_)
      | (with_reducible refine LeO.bind ?_ (fun _ => ?_))
      | exact source_Valid.mono _ _
      | exact source_Width.mono _ _ _
      | exact LeO.none _
      | refine LeO.ite ?_ ?_
      | refine LeO.bind ?_ (fun _ => ?_)
set_option maxHeartbeats 8000000 in
set_option maxRecDepth 100000 in
theorem trammellaw1_awake.calls (k : Nat)  (r : Bool) (w : World) (h : trammellaw1_awake.f k  = some r) :
    Calls Try.prog 13 #[] w fun e w' => e = .returned (.bool r) ∧ Drawn0 w w' := by
  have H : ((source_Valid.f k (⟨#[97, 195, 169, 226, 130, 172, 240, 159, 152, 128]⟩ : ByteArray)).bind fun bt109 => ((source_Valid.f k (⟨#[97, 98, 237, 160, 128]⟩ : ByteArray)).bind fun bt111 => ((source_Valid.f k (⟨#[120, 195]⟩ : ByteArray)).bind fun bt113 => ((source_Width.f k (⟨#[226, 130, 172]⟩ : ByteArray) 0).bind fun bt115 => ((source_Width.f k (⟨#[226, 130, 172]⟩ : ByteArray) 1).bind fun bt117 => ((source_Width.f k (⟨#[97]⟩ : ByteArray) 1).bind fun bt119 => (if bt109.1 = 0 then (if bt109.2 = true then (if bt111.1 = 2 then (if bt111.2 = true then (some false) else (if bt113.1 = 1 then (if bt113.2 = true then (some false) else (if bt115.1 = 3 then ((trammellaw0_Num.f bt115.2).bind fun t121 => (if t121 = 0 then ((trammellaw0_Num.f bt117.2).bind fun t122 => (if t122 = 100 then ((trammellaw0_Num.f bt119.2).bind fun t123 => (some (t123 == 100))) else (some false))) else (some false))) else (some false))) else (some false))) else (some false)) else (some false)) else (some false)))))))) = some r := h
  clear h
  replace H := Option.bind_eq_some_iff.mp H
  obtain ⟨⟨t109, t110⟩, A10, H⟩ := H
  replace H : ((source_Valid.f k (⟨#[97, 98, 237, 160, 128]⟩ : ByteArray)).bind fun bt111 => ((source_Valid.f k (⟨#[120, 195]⟩ : ByteArray)).bind fun bt113 => ((source_Width.f k (⟨#[226, 130, 172]⟩ : ByteArray) 0).bind fun bt115 => ((source_Width.f k (⟨#[226, 130, 172]⟩ : ByteArray) 1).bind fun bt117 => ((source_Width.f k (⟨#[97]⟩ : ByteArray) 1).bind fun bt119 => (if t109 = 0 then (if t110 = true then (if bt111.1 = 2 then (if bt111.2 = true then (some false) else (if bt113.1 = 1 then (if bt113.2 = true then (some false) else (if bt115.1 = 3 then ((trammellaw0_Num.f bt115.2).bind fun t121 => (if t121 = 0 then ((trammellaw0_Num.f bt117.2).bind fun t122 => (if t122 = 100 then ((trammellaw0_Num.f bt119.2).bind fun t123 => (some (t123 == 100))) else (some false))) else (some false))) else (some false))) else (some false))) else (some false)) else (some false)) else (some false))))))) = some r := H
  have A1 := Aside0.mk A10
  clear A10
  replace H := Option.bind_eq_some_iff.mp H
  obtain ⟨⟨t111, t112⟩, A20, H⟩ := H
  replace H : ((source_Valid.f k (⟨#[120, 195]⟩ : ByteArray)).bind fun bt113 => ((source_Width.f k (⟨#[226, 130, 172]⟩ : ByteArray) 0).bind fun bt115 => ((source_Width.f k (⟨#[226, 130, 172]⟩ : ByteArray) 1).bind fun bt117 => ((source_Width.f k (⟨#[97]⟩ : ByteArray) 1).bind fun bt119 => (if t109 = 0 then (if t110 = true then (if t111 = 2 then (if t112 = true then (some false) else (if bt113.1 = 1 then (if bt113.2 = true then (some false) else (if bt115.1 = 3 then ((trammellaw0_Num.f bt115.2).bind fun t121 => (if t121 = 0 then ((trammellaw0_Num.f bt117.2).bind fun t122 => (if t122 = 100 then ((trammellaw0_Num.f bt119.2).bind fun t123 => (some (t123 == 100))) else (some false))) else (some false))) else (some false))) else (some false))) else (some false)) else (some false)) else (some false)))))) = some r := H
  have A2 := Aside0.mk A20
  clear A20
  replace H := Option.bind_eq_some_iff.mp H
  obtain ⟨⟨t113, t114⟩, A30, H⟩ := H
  replace H : ((source_Width.f k (⟨#[226, 130, 172]⟩ : ByteArray) 0).bind fun bt115 => ((source_Width.f k (⟨#[226, 130, 172]⟩ : ByteArray) 1).bind fun bt117 => ((source_Width.f k (⟨#[97]⟩ : ByteArray) 1).bind fun bt119 => (if t109 = 0 then (if t110 = true then (if t111 = 2 then (if t112 = true then (some false) else (if t113 = 1 then (if t114 = true then (some false) else (if bt115.1 = 3 then ((trammellaw0_Num.f bt115.2).bind fun t121 => (if t121 = 0 then ((trammellaw0_Num.f bt117.2).bind fun t122 => (if t122 = 100 then ((trammellaw0_Num.f bt119.2).bind fun t123 => (some (t123 == 100))) else (some false))) else (some false))) else (some false))) else (some false))) else (some false)) else (some false)) else (some false))))) = some r := H
  have A3 := Aside0.mk A30
  clear A30
  replace H := Option.bind_eq_some_iff.mp H
  obtain ⟨⟨t115, t116⟩, A40, H⟩ := H
  replace H : ((source_Width.f k (⟨#[226, 130, 172]⟩ : ByteArray) 1).bind fun bt117 => ((source_Width.f k (⟨#[97]⟩ : ByteArray) 1).bind fun bt119 => (if t109 = 0 then (if t110 = true then (if t111 = 2 then (if t112 = true then (some false) else (if t113 = 1 then (if t114 = true then (some false) else (if t115 = 3 then ((trammellaw0_Num.f t116).bind fun t121 => (if t121 = 0 then ((trammellaw0_Num.f bt117.2).bind fun t122 => (if t122 = 100 then ((trammellaw0_Num.f bt119.2).bind fun t123 => (some (t123 == 100))) else (some false))) else (some false))) else (some false))) else (some false))) else (some false)) else (some false)) else (some false)))) = some r := H
  have A4 := Aside0.mk A40
  clear A40
  replace H := Option.bind_eq_some_iff.mp H
  obtain ⟨⟨t117, t118⟩, A50, H⟩ := H
  replace H : ((source_Width.f k (⟨#[97]⟩ : ByteArray) 1).bind fun bt119 => (if t109 = 0 then (if t110 = true then (if t111 = 2 then (if t112 = true then (some false) else (if t113 = 1 then (if t114 = true then (some false) else (if t115 = 3 then ((trammellaw0_Num.f t116).bind fun t121 => (if t121 = 0 then ((trammellaw0_Num.f t118).bind fun t122 => (if t122 = 100 then ((trammellaw0_Num.f bt119.2).bind fun t123 => (some (t123 == 100))) else (some false))) else (some false))) else (some false))) else (some false))) else (some false)) else (some false)) else (some false))) = some r := H
  have A5 := Aside0.mk A50
  clear A50
  replace H := Option.bind_eq_some_iff.mp H
  obtain ⟨⟨t119, t120⟩, A60, H⟩ := H
  replace H : (if t109 = 0 then (if t110 = true then (if t111 = 2 then (if t112 = true then (some false) else (if t113 = 1 then (if t114 = true then (some false) else (if t115 = 3 then ((trammellaw0_Num.f t116).bind fun t121 => (if t121 = 0 then ((trammellaw0_Num.f t118).bind fun t122 => (if t122 = 100 then ((trammellaw0_Num.f t120).bind fun t123 => (some (t123 == 100))) else (some false))) else (some false))) else (some false))) else (some false))) else (some false)) else (some false)) else (some false)) = some r := H
  have A6 := Aside0.mk A60
  clear A60
  by_cases c7 : t109 = 0
  · rw [if_pos c7] at H
    have c7b0 : (t109 == 0) = true := beq_iff_eq.mpr c7
    have c7b1 : (t109 != 0) = false := bne_eq_false_iff_eq.mpr c7
    clear c7
    by_cases c8 : t110 = true
    · subst c8
      have H1 : (if t111 = 2 then (if t112 = true then (some false) else (if t113 = 1 then (if t114 = true then (some false) else (if t115 = 3 then ((trammellaw0_Num.f t116).bind fun t121 => (if t121 = 0 then ((trammellaw0_Num.f t118).bind fun t122 => (if t122 = 100 then ((trammellaw0_Num.f t120).bind fun t123 => (some (t123 == 100))) else (some false))) else (some false))) else (some false))) else (some false))) else (some false)) = some r := by rw [if_pos rfl] at H; exact H
      clear H
      have H := H1
      clear H1
      by_cases c9 : t111 = 2
      · rw [if_pos c9] at H
        have c9b0 : (t111 == 2) = true := beq_iff_eq.mpr c9
        have c9b1 : (t111 != 2) = false := bne_eq_false_iff_eq.mpr c9
        clear c9
        by_cases c10 : t112 = true
        · subst c10
          have H1 : (some false) = some r := by rw [if_pos rfl] at H; exact H
          clear H
          have H := H1
          clear H1
          obtain rfl := Option.some.inj H
          go_enter Try.func13, Try.ntmps13
          go_wp2_with (first | ((with_reducible refine gate_callee (f := 8) rfl ?_); refine goesL_ (some 14) rfl rfl Try.func8 (by kernel_rfl) rfl #[.string (⟨#[97, 195, 169, 226, 130, 172, 240, 159, 152, 128]⟩ : ByteArray)] rfl (by (try simp only [List.map_toArray, List.map_cons, List.map_nil]); first | done | rfl | (simp only [List.length_drop, List.length_take]; rfl)) ?_; (with_reducible refine (source_Valid.calls k (⟨#[97, 195, 169, 226, 130, 172, 240, 159, 152, 128]⟩ : ByteArray) t109 true _ A1.out).mono ?_); rintro e w' ⟨rfl, ⟨nd, rfl⟩⟩; refine ⟨_, rfl, ?_⟩) | ((with_reducible refine gate_callee (f := 8) rfl ?_); refine goesL_ (some 18) rfl rfl Try.func8 (by kernel_rfl) rfl #[.string (⟨#[97, 98, 237, 160, 128]⟩ : ByteArray)] rfl (by (try simp only [List.map_toArray, List.map_cons, List.map_nil]); first | done | rfl | (simp only [List.length_drop, List.length_take]; rfl)) ?_; (with_reducible refine (source_Valid.calls k (⟨#[97, 98, 237, 160, 128]⟩ : ByteArray) t111 true _ A2.out).mono ?_); rintro e w' ⟨rfl, ⟨nd, rfl⟩⟩; refine ⟨_, rfl, ?_⟩) | ((with_reducible refine gate_callee (f := 8) rfl ?_); refine goesL_ (some 22) rfl rfl Try.func8 (by kernel_rfl) rfl #[.string (⟨#[120, 195]⟩ : ByteArray)] rfl (by (try simp only [List.map_toArray, List.map_cons, List.map_nil]); first | done | rfl | (simp only [List.length_drop, List.length_take]; rfl)) ?_; (with_reducible refine (source_Valid.calls k (⟨#[120, 195]⟩ : ByteArray) t113 t114 _ A3.out).mono ?_); rintro e w' ⟨rfl, ⟨nd, rfl⟩⟩; refine ⟨_, rfl, ?_⟩) | ((with_reducible refine gate_callee (f := 10) rfl ?_); refine goesL_ (some 26) rfl rfl Try.func10 (by kernel_rfl) rfl #[.string (⟨#[226, 130, 172]⟩ : ByteArray), .int .i64 0] rfl (by (try simp only [List.map_toArray, List.map_cons, List.map_nil]); first | done | rfl | (simp only [List.length_drop, List.length_take]; rfl)) ?_; (with_reducible refine (source_Width.calls k (⟨#[226, 130, 172]⟩ : ByteArray) 0 t115 t116 _ A4.out).mono ?_); rintro e w' ⟨rfl, ⟨nd, rfl⟩⟩; refine ⟨_, rfl, ?_⟩) | ((with_reducible refine gate_callee (f := 10) rfl ?_); refine goesL_ (some 30) rfl rfl Try.func10 (by kernel_rfl) rfl #[.string (⟨#[226, 130, 172]⟩ : ByteArray), .int .i64 1] rfl (by (try simp only [List.map_toArray, List.map_cons, List.map_nil]); first | done | rfl | (simp only [List.length_drop, List.length_take]; rfl)) ?_; (with_reducible refine (source_Width.calls k (⟨#[226, 130, 172]⟩ : ByteArray) 1 t117 t118 _ A5.out).mono ?_); rintro e w' ⟨rfl, ⟨nd, rfl⟩⟩; refine ⟨_, rfl, ?_⟩) | ((with_reducible refine gate_callee (f := 10) rfl ?_); refine goesL_ (some 34) rfl rfl Try.func10 (by kernel_rfl) rfl #[.string (⟨#[97]⟩ : ByteArray), .int .i64 1] rfl (by (try simp only [List.map_toArray, List.map_cons, List.map_nil]); first | done | rfl | (simp only [List.length_drop, List.length_take]; rfl)) ?_; (with_reducible refine (source_Width.calls k (⟨#[97]⟩ : ByteArray) 1 t119 t120 _ A6.out).mono ?_); rintro e w' ⟨rfl, ⟨nd, rfl⟩⟩; refine ⟨_, rfl, ?_⟩))
          go_ret
          exact ⟨by first | rfl | (simp; done) | (simp [*]; done), by repeat (first | exact Drawn0.refl _ | apply Drawn0.step)⟩
        · replace c10 := Bool.eq_false_iff.mpr c10
          subst c10
          have H1 : (if t113 = 1 then (if t114 = true then (some false) else (if t115 = 3 then ((trammellaw0_Num.f t116).bind fun t121 => (if t121 = 0 then ((trammellaw0_Num.f t118).bind fun t122 => (if t122 = 100 then ((trammellaw0_Num.f t120).bind fun t123 => (some (t123 == 100))) else (some false))) else (some false))) else (some false))) else (some false)) = some r := by rw [if_neg (show ¬ (false = true) by decide)] at H; exact H
          clear H
          have H := H1
          clear H1
          by_cases c11 : t113 = 1
          · rw [if_pos c11] at H
            have c11b0 : (t113 == 1) = true := beq_iff_eq.mpr c11
            have c11b1 : (t113 != 1) = false := bne_eq_false_iff_eq.mpr c11
            clear c11
            by_cases c12 : t114 = true
            · subst c12
              have H1 : (some false) = some r := by rw [if_pos rfl] at H; exact H
              clear H
              have H := H1
              clear H1
              obtain rfl := Option.some.inj H
              go_enter Try.func13, Try.ntmps13
              go_wp2_with (first | ((with_reducible refine gate_callee (f := 8) rfl ?_); refine goesL_ (some 14) rfl rfl Try.func8 (by kernel_rfl) rfl #[.string (⟨#[97, 195, 169, 226, 130, 172, 240, 159, 152, 128]⟩ : ByteArray)] rfl (by (try simp only [List.map_toArray, List.map_cons, List.map_nil]); first | done | rfl | (simp only [List.length_drop, List.length_take]; rfl)) ?_; (with_reducible refine (source_Valid.calls k (⟨#[97, 195, 169, 226, 130, 172, 240, 159, 152, 128]⟩ : ByteArray) t109 true _ A1.out).mono ?_); rintro e w' ⟨rfl, ⟨nd, rfl⟩⟩; refine ⟨_, rfl, ?_⟩) | ((with_reducible refine gate_callee (f := 8) rfl ?_); refine goesL_ (some 18) rfl rfl Try.func8 (by kernel_rfl) rfl #[.string (⟨#[97, 98, 237, 160, 128]⟩ : ByteArray)] rfl (by (try simp only [List.map_toArray, List.map_cons, List.map_nil]); first | done | rfl | (simp only [List.length_drop, List.length_take]; rfl)) ?_; (with_reducible refine (source_Valid.calls k (⟨#[97, 98, 237, 160, 128]⟩ : ByteArray) t111 false _ A2.out).mono ?_); rintro e w' ⟨rfl, ⟨nd, rfl⟩⟩; refine ⟨_, rfl, ?_⟩) | ((with_reducible refine gate_callee (f := 8) rfl ?_); refine goesL_ (some 22) rfl rfl Try.func8 (by kernel_rfl) rfl #[.string (⟨#[120, 195]⟩ : ByteArray)] rfl (by (try simp only [List.map_toArray, List.map_cons, List.map_nil]); first | done | rfl | (simp only [List.length_drop, List.length_take]; rfl)) ?_; (with_reducible refine (source_Valid.calls k (⟨#[120, 195]⟩ : ByteArray) t113 true _ A3.out).mono ?_); rintro e w' ⟨rfl, ⟨nd, rfl⟩⟩; refine ⟨_, rfl, ?_⟩) | ((with_reducible refine gate_callee (f := 10) rfl ?_); refine goesL_ (some 26) rfl rfl Try.func10 (by kernel_rfl) rfl #[.string (⟨#[226, 130, 172]⟩ : ByteArray), .int .i64 0] rfl (by (try simp only [List.map_toArray, List.map_cons, List.map_nil]); first | done | rfl | (simp only [List.length_drop, List.length_take]; rfl)) ?_; (with_reducible refine (source_Width.calls k (⟨#[226, 130, 172]⟩ : ByteArray) 0 t115 t116 _ A4.out).mono ?_); rintro e w' ⟨rfl, ⟨nd, rfl⟩⟩; refine ⟨_, rfl, ?_⟩) | ((with_reducible refine gate_callee (f := 10) rfl ?_); refine goesL_ (some 30) rfl rfl Try.func10 (by kernel_rfl) rfl #[.string (⟨#[226, 130, 172]⟩ : ByteArray), .int .i64 1] rfl (by (try simp only [List.map_toArray, List.map_cons, List.map_nil]); first | done | rfl | (simp only [List.length_drop, List.length_take]; rfl)) ?_; (with_reducible refine (source_Width.calls k (⟨#[226, 130, 172]⟩ : ByteArray) 1 t117 t118 _ A5.out).mono ?_); rintro e w' ⟨rfl, ⟨nd, rfl⟩⟩; refine ⟨_, rfl, ?_⟩) | ((with_reducible refine gate_callee (f := 10) rfl ?_); refine goesL_ (some 34) rfl rfl Try.func10 (by kernel_rfl) rfl #[.string (⟨#[97]⟩ : ByteArray), .int .i64 1] rfl (by (try simp only [List.map_toArray, List.map_cons, List.map_nil]); first | done | rfl | (simp only [List.length_drop, List.length_take]; rfl)) ?_; (with_reducible refine (source_Width.calls k (⟨#[97]⟩ : ByteArray) 1 t119 t120 _ A6.out).mono ?_); rintro e w' ⟨rfl, ⟨nd, rfl⟩⟩; refine ⟨_, rfl, ?_⟩))
              go_ret
              exact ⟨by first | rfl | (simp; done) | (simp [*]; done), by repeat (first | exact Drawn0.refl _ | apply Drawn0.step)⟩
            · replace c12 := Bool.eq_false_iff.mpr c12
              subst c12
              have H1 : (if t115 = 3 then ((trammellaw0_Num.f t116).bind fun t121 => (if t121 = 0 then ((trammellaw0_Num.f t118).bind fun t122 => (if t122 = 100 then ((trammellaw0_Num.f t120).bind fun t123 => (some (t123 == 100))) else (some false))) else (some false))) else (some false)) = some r := by rw [if_neg (show ¬ (false = true) by decide)] at H; exact H
              clear H
              have H := H1
              clear H1
              by_cases c13 : t115 = 3
              · rw [if_pos c13] at H
                have c13b0 : (t115 == 3) = true := beq_iff_eq.mpr c13
                have c13b1 : (t115 != 3) = false := bne_eq_false_iff_eq.mpr c13
                clear c13
                replace H := Option.bind_eq_some_iff.mp H
                obtain ⟨t121, A140, H⟩ := H
                replace H : (if t121 = 0 then ((trammellaw0_Num.f t118).bind fun t122 => (if t122 = 100 then ((trammellaw0_Num.f t120).bind fun t123 => (some (t123 == 100))) else (some false))) else (some false)) = some r := H
                have A14 := Aside0.mk A140
                clear A140
                by_cases c15 : t121 = 0
                · rw [if_pos c15] at H
                  have c15b0 : (t121 == 0) = true := beq_iff_eq.mpr c15
                  have c15b1 : (t121 != 0) = false := bne_eq_false_iff_eq.mpr c15
                  clear c15
                  replace H := Option.bind_eq_some_iff.mp H
                  obtain ⟨t122, A160, H⟩ := H
                  replace H : (if t122 = 100 then ((trammellaw0_Num.f t120).bind fun t123 => (some (t123 == 100))) else (some false)) = some r := H
                  have A16 := Aside0.mk A160
                  clear A160
                  by_cases c17 : t122 = 100
                  · rw [if_pos c17] at H
                    have c17b0 : (t122 == 100) = true := beq_iff_eq.mpr c17
                    have c17b1 : (t122 != 100) = false := bne_eq_false_iff_eq.mpr c17
                    clear c17
                    replace H := Option.bind_eq_some_iff.mp H
                    obtain ⟨t123, A180, H⟩ := H
                    replace H : (some (t123 == 100)) = some r := H
                    have A18 := Aside0.mk A180
                    clear A180
                    obtain rfl := Option.some.inj H
                    go_enter Try.func13, Try.ntmps13
                    go_wp2_with (first | ((with_reducible refine gate_callee (f := 8) rfl ?_); refine goesL_ (some 14) rfl rfl Try.func8 (by kernel_rfl) rfl #[.string (⟨#[97, 195, 169, 226, 130, 172, 240, 159, 152, 128]⟩ : ByteArray)] rfl (by (try simp only [List.map_toArray, List.map_cons, List.map_nil]); first | done | rfl | (simp only [List.length_drop, List.length_take]; rfl)) ?_; (with_reducible refine (source_Valid.calls k (⟨#[97, 195, 169, 226, 130, 172, 240, 159, 152, 128]⟩ : ByteArray) t109 true _ A1.out).mono ?_); rintro e w' ⟨rfl, ⟨nd, rfl⟩⟩; refine ⟨_, rfl, ?_⟩) | ((with_reducible refine gate_callee (f := 8) rfl ?_); refine goesL_ (some 18) rfl rfl Try.func8 (by kernel_rfl) rfl #[.string (⟨#[97, 98, 237, 160, 128]⟩ : ByteArray)] rfl (by (try simp only [List.map_toArray, List.map_cons, List.map_nil]); first | done | rfl | (simp only [List.length_drop, List.length_take]; rfl)) ?_; (with_reducible refine (source_Valid.calls k (⟨#[97, 98, 237, 160, 128]⟩ : ByteArray) t111 false _ A2.out).mono ?_); rintro e w' ⟨rfl, ⟨nd, rfl⟩⟩; refine ⟨_, rfl, ?_⟩) | ((with_reducible refine gate_callee (f := 8) rfl ?_); refine goesL_ (some 22) rfl rfl Try.func8 (by kernel_rfl) rfl #[.string (⟨#[120, 195]⟩ : ByteArray)] rfl (by (try simp only [List.map_toArray, List.map_cons, List.map_nil]); first | done | rfl | (simp only [List.length_drop, List.length_take]; rfl)) ?_; (with_reducible refine (source_Valid.calls k (⟨#[120, 195]⟩ : ByteArray) t113 false _ A3.out).mono ?_); rintro e w' ⟨rfl, ⟨nd, rfl⟩⟩; refine ⟨_, rfl, ?_⟩) | ((with_reducible refine gate_callee (f := 10) rfl ?_); refine goesL_ (some 26) rfl rfl Try.func10 (by kernel_rfl) rfl #[.string (⟨#[226, 130, 172]⟩ : ByteArray), .int .i64 0] rfl (by (try simp only [List.map_toArray, List.map_cons, List.map_nil]); first | done | rfl | (simp only [List.length_drop, List.length_take]; rfl)) ?_; (with_reducible refine (source_Width.calls k (⟨#[226, 130, 172]⟩ : ByteArray) 0 t115 t116 _ A4.out).mono ?_); rintro e w' ⟨rfl, ⟨nd, rfl⟩⟩; refine ⟨_, rfl, ?_⟩) | ((with_reducible refine gate_callee (f := 10) rfl ?_); refine goesL_ (some 30) rfl rfl Try.func10 (by kernel_rfl) rfl #[.string (⟨#[226, 130, 172]⟩ : ByteArray), .int .i64 1] rfl (by (try simp only [List.map_toArray, List.map_cons, List.map_nil]); first | done | rfl | (simp only [List.length_drop, List.length_take]; rfl)) ?_; (with_reducible refine (source_Width.calls k (⟨#[226, 130, 172]⟩ : ByteArray) 1 t117 t118 _ A5.out).mono ?_); rintro e w' ⟨rfl, ⟨nd, rfl⟩⟩; refine ⟨_, rfl, ?_⟩) | ((with_reducible refine gate_callee (f := 10) rfl ?_); refine goesL_ (some 34) rfl rfl Try.func10 (by kernel_rfl) rfl #[.string (⟨#[97]⟩ : ByteArray), .int .i64 1] rfl (by (try simp only [List.map_toArray, List.map_cons, List.map_nil]); first | done | rfl | (simp only [List.length_drop, List.length_take]; rfl)) ?_; (with_reducible refine (source_Width.calls k (⟨#[97]⟩ : ByteArray) 1 t119 t120 _ A6.out).mono ?_); rintro e w' ⟨rfl, ⟨nd, rfl⟩⟩; refine ⟨_, rfl, ?_⟩) | (go_at_call 12; (with_reducible refine (trammellaw0_Num.calls t116 t121 _ A14.out).mono ?_); rintro e w' ⟨rfl, ⟨nd, rfl⟩⟩) | (go_at_call 12; (with_reducible refine (trammellaw0_Num.calls t118 t122 _ A16.out).mono ?_); rintro e w' ⟨rfl, ⟨nd, rfl⟩⟩) | (go_at_call 12; (with_reducible refine (trammellaw0_Num.calls t120 t123 _ A18.out).mono ?_); rintro e w' ⟨rfl, ⟨nd, rfl⟩⟩))
                    go_ret
                    exact ⟨by first | rfl | (simp; done) | (simp [*]; done), by repeat (first | exact Drawn0.refl _ | apply Drawn0.step)⟩
                  · rw [if_neg c17] at H
                    have c17b0 : (t122 == 100) = false := beq_eq_false_iff_ne.mpr c17
                    have c17b1 : (t122 != 100) = true := bne_iff_ne.mpr c17
                    obtain rfl := Option.some.inj H
                    go_enter Try.func13, Try.ntmps13
                    go_wp2_with (first | ((with_reducible refine gate_callee (f := 8) rfl ?_); refine goesL_ (some 14) rfl rfl Try.func8 (by kernel_rfl) rfl #[.string (⟨#[97, 195, 169, 226, 130, 172, 240, 159, 152, 128]⟩ : ByteArray)] rfl (by (try simp only [List.map_toArray, List.map_cons, List.map_nil]); first | done | rfl | (simp only [List.length_drop, List.length_take]; rfl)) ?_; (with_reducible refine (source_Valid.calls k (⟨#[97, 195, 169, 226, 130, 172, 240, 159, 152, 128]⟩ : ByteArray) t109 true _ A1.out).mono ?_); rintro e w' ⟨rfl, ⟨nd, rfl⟩⟩; refine ⟨_, rfl, ?_⟩) | ((with_reducible refine gate_callee (f := 8) rfl ?_); refine goesL_ (some 18) rfl rfl Try.func8 (by kernel_rfl) rfl #[.string (⟨#[97, 98, 237, 160, 128]⟩ : ByteArray)] rfl (by (try simp only [List.map_toArray, List.map_cons, List.map_nil]); first | done | rfl | (simp only [List.length_drop, List.length_take]; rfl)) ?_; (with_reducible refine (source_Valid.calls k (⟨#[97, 98, 237, 160, 128]⟩ : ByteArray) t111 false _ A2.out).mono ?_); rintro e w' ⟨rfl, ⟨nd, rfl⟩⟩; refine ⟨_, rfl, ?_⟩) | ((with_reducible refine gate_callee (f := 8) rfl ?_); refine goesL_ (some 22) rfl rfl Try.func8 (by kernel_rfl) rfl #[.string (⟨#[120, 195]⟩ : ByteArray)] rfl (by (try simp only [List.map_toArray, List.map_cons, List.map_nil]); first | done | rfl | (simp only [List.length_drop, List.length_take]; rfl)) ?_; (with_reducible refine (source_Valid.calls k (⟨#[120, 195]⟩ : ByteArray) t113 false _ A3.out).mono ?_); rintro e w' ⟨rfl, ⟨nd, rfl⟩⟩; refine ⟨_, rfl, ?_⟩) | ((with_reducible refine gate_callee (f := 10) rfl ?_); refine goesL_ (some 26) rfl rfl Try.func10 (by kernel_rfl) rfl #[.string (⟨#[226, 130, 172]⟩ : ByteArray), .int .i64 0] rfl (by (try simp only [List.map_toArray, List.map_cons, List.map_nil]); first | done | rfl | (simp only [List.length_drop, List.length_take]; rfl)) ?_; (with_reducible refine (source_Width.calls k (⟨#[226, 130, 172]⟩ : ByteArray) 0 t115 t116 _ A4.out).mono ?_); rintro e w' ⟨rfl, ⟨nd, rfl⟩⟩; refine ⟨_, rfl, ?_⟩) | ((with_reducible refine gate_callee (f := 10) rfl ?_); refine goesL_ (some 30) rfl rfl Try.func10 (by kernel_rfl) rfl #[.string (⟨#[226, 130, 172]⟩ : ByteArray), .int .i64 1] rfl (by (try simp only [List.map_toArray, List.map_cons, List.map_nil]); first | done | rfl | (simp only [List.length_drop, List.length_take]; rfl)) ?_; (with_reducible refine (source_Width.calls k (⟨#[226, 130, 172]⟩ : ByteArray) 1 t117 t118 _ A5.out).mono ?_); rintro e w' ⟨rfl, ⟨nd, rfl⟩⟩; refine ⟨_, rfl, ?_⟩) | ((with_reducible refine gate_callee (f := 10) rfl ?_); refine goesL_ (some 34) rfl rfl Try.func10 (by kernel_rfl) rfl #[.string (⟨#[97]⟩ : ByteArray), .int .i64 1] rfl (by (try simp only [List.map_toArray, List.map_cons, List.map_nil]); first | done | rfl | (simp only [List.length_drop, List.length_take]; rfl)) ?_; (with_reducible refine (source_Width.calls k (⟨#[97]⟩ : ByteArray) 1 t119 t120 _ A6.out).mono ?_); rintro e w' ⟨rfl, ⟨nd, rfl⟩⟩; refine ⟨_, rfl, ?_⟩) | (go_at_call 12; (with_reducible refine (trammellaw0_Num.calls t116 t121 _ A14.out).mono ?_); rintro e w' ⟨rfl, ⟨nd, rfl⟩⟩) | (go_at_call 12; (with_reducible refine (trammellaw0_Num.calls t118 t122 _ A16.out).mono ?_); rintro e w' ⟨rfl, ⟨nd, rfl⟩⟩))
                    go_ret
                    exact ⟨by first | rfl | (simp; done) | (simp [*]; done), by repeat (first | exact Drawn0.refl _ | apply Drawn0.step)⟩
                · rw [if_neg c15] at H
                  have c15b0 : (t121 == 0) = false := beq_eq_false_iff_ne.mpr c15
                  have c15b1 : (t121 != 0) = true := bne_iff_ne.mpr c15
                  obtain rfl := Option.some.inj H
                  go_enter Try.func13, Try.ntmps13
                  go_wp2_with (first | ((with_reducible refine gate_callee (f := 8) rfl ?_); refine goesL_ (some 14) rfl rfl Try.func8 (by kernel_rfl) rfl #[.string (⟨#[97, 195, 169, 226, 130, 172, 240, 159, 152, 128]⟩ : ByteArray)] rfl (by (try simp only [List.map_toArray, List.map_cons, List.map_nil]); first | done | rfl | (simp only [List.length_drop, List.length_take]; rfl)) ?_; (with_reducible refine (source_Valid.calls k (⟨#[97, 195, 169, 226, 130, 172, 240, 159, 152, 128]⟩ : ByteArray) t109 true _ A1.out).mono ?_); rintro e w' ⟨rfl, ⟨nd, rfl⟩⟩; refine ⟨_, rfl, ?_⟩) | ((with_reducible refine gate_callee (f := 8) rfl ?_); refine goesL_ (some 18) rfl rfl Try.func8 (by kernel_rfl) rfl #[.string (⟨#[97, 98, 237, 160, 128]⟩ : ByteArray)] rfl (by (try simp only [List.map_toArray, List.map_cons, List.map_nil]); first | done | rfl | (simp only [List.length_drop, List.length_take]; rfl)) ?_; (with_reducible refine (source_Valid.calls k (⟨#[97, 98, 237, 160, 128]⟩ : ByteArray) t111 false _ A2.out).mono ?_); rintro e w' ⟨rfl, ⟨nd, rfl⟩⟩; refine ⟨_, rfl, ?_⟩) | ((with_reducible refine gate_callee (f := 8) rfl ?_); refine goesL_ (some 22) rfl rfl Try.func8 (by kernel_rfl) rfl #[.string (⟨#[120, 195]⟩ : ByteArray)] rfl (by (try simp only [List.map_toArray, List.map_cons, List.map_nil]); first | done | rfl | (simp only [List.length_drop, List.length_take]; rfl)) ?_; (with_reducible refine (source_Valid.calls k (⟨#[120, 195]⟩ : ByteArray) t113 false _ A3.out).mono ?_); rintro e w' ⟨rfl, ⟨nd, rfl⟩⟩; refine ⟨_, rfl, ?_⟩) | ((with_reducible refine gate_callee (f := 10) rfl ?_); refine goesL_ (some 26) rfl rfl Try.func10 (by kernel_rfl) rfl #[.string (⟨#[226, 130, 172]⟩ : ByteArray), .int .i64 0] rfl (by (try simp only [List.map_toArray, List.map_cons, List.map_nil]); first | done | rfl | (simp only [List.length_drop, List.length_take]; rfl)) ?_; (with_reducible refine (source_Width.calls k (⟨#[226, 130, 172]⟩ : ByteArray) 0 t115 t116 _ A4.out).mono ?_); rintro e w' ⟨rfl, ⟨nd, rfl⟩⟩; refine ⟨_, rfl, ?_⟩) | ((with_reducible refine gate_callee (f := 10) rfl ?_); refine goesL_ (some 30) rfl rfl Try.func10 (by kernel_rfl) rfl #[.string (⟨#[226, 130, 172]⟩ : ByteArray), .int .i64 1] rfl (by (try simp only [List.map_toArray, List.map_cons, List.map_nil]); first | done | rfl | (simp only [List.length_drop, List.length_take]; rfl)) ?_; (with_reducible refine (source_Width.calls k (⟨#[226, 130, 172]⟩ : ByteArray) 1 t117 t118 _ A5.out).mono ?_); rintro e w' ⟨rfl, ⟨nd, rfl⟩⟩; refine ⟨_, rfl, ?_⟩) | ((with_reducible refine gate_callee (f := 10) rfl ?_); refine goesL_ (some 34) rfl rfl Try.func10 (by kernel_rfl) rfl #[.string (⟨#[97]⟩ : ByteArray), .int .i64 1] rfl (by (try simp only [List.map_toArray, List.map_cons, List.map_nil]); first | done | rfl | (simp only [List.length_drop, List.length_take]; rfl)) ?_; (with_reducible refine (source_Width.calls k (⟨#[97]⟩ : ByteArray) 1 t119 t120 _ A6.out).mono ?_); rintro e w' ⟨rfl, ⟨nd, rfl⟩⟩; refine ⟨_, rfl, ?_⟩) | (go_at_call 12; (with_reducible refine (trammellaw0_Num.calls t116 t121 _ A14.out).mono ?_); rintro e w' ⟨rfl, ⟨nd, rfl⟩⟩))
                  go_ret
                  exact ⟨by first | rfl | (simp; done) | (simp [*]; done), by repeat (first | exact Drawn0.refl _ | apply Drawn0.step)⟩
              · rw [if_neg c13] at H
                have c13b0 : (t115 == 3) = false := beq_eq_false_iff_ne.mpr c13
                have c13b1 : (t115 != 3) = true := bne_iff_ne.mpr c13
                obtain rfl := Option.some.inj H
                go_enter Try.func13, Try.ntmps13
                go_wp2_with (first | ((with_reducible refine gate_callee (f := 8) rfl ?_); refine goesL_ (some 14) rfl rfl Try.func8 (by kernel_rfl) rfl #[.string (⟨#[97, 195, 169, 226, 130, 172, 240, 159, 152, 128]⟩ : ByteArray)] rfl (by (try simp only [List.map_toArray, List.map_cons, List.map_nil]); first | done | rfl | (simp only [List.length_drop, List.length_take]; rfl)) ?_; (with_reducible refine (source_Valid.calls k (⟨#[97, 195, 169, 226, 130, 172, 240, 159, 152, 128]⟩ : ByteArray) t109 true _ A1.out).mono ?_); rintro e w' ⟨rfl, ⟨nd, rfl⟩⟩; refine ⟨_, rfl, ?_⟩) | ((with_reducible refine gate_callee (f := 8) rfl ?_); refine goesL_ (some 18) rfl rfl Try.func8 (by kernel_rfl) rfl #[.string (⟨#[97, 98, 237, 160, 128]⟩ : ByteArray)] rfl (by (try simp only [List.map_toArray, List.map_cons, List.map_nil]); first | done | rfl | (simp only [List.length_drop, List.length_take]; rfl)) ?_; (with_reducible refine (source_Valid.calls k (⟨#[97, 98, 237, 160, 128]⟩ : ByteArray) t111 false _ A2.out).mono ?_); rintro e w' ⟨rfl, ⟨nd, rfl⟩⟩; refine ⟨_, rfl, ?_⟩) | ((with_reducible refine gate_callee (f := 8) rfl ?_); refine goesL_ (some 22) rfl rfl Try.func8 (by kernel_rfl) rfl #[.string (⟨#[120, 195]⟩ : ByteArray)] rfl (by (try simp only [List.map_toArray, List.map_cons, List.map_nil]); first | done | rfl | (simp only [List.length_drop, List.length_take]; rfl)) ?_; (with_reducible refine (source_Valid.calls k (⟨#[120, 195]⟩ : ByteArray) t113 false _ A3.out).mono ?_); rintro e w' ⟨rfl, ⟨nd, rfl⟩⟩; refine ⟨_, rfl, ?_⟩) | ((with_reducible refine gate_callee (f := 10) rfl ?_); refine goesL_ (some 26) rfl rfl Try.func10 (by kernel_rfl) rfl #[.string (⟨#[226, 130, 172]⟩ : ByteArray), .int .i64 0] rfl (by (try simp only [List.map_toArray, List.map_cons, List.map_nil]); first | done | rfl | (simp only [List.length_drop, List.length_take]; rfl)) ?_; (with_reducible refine (source_Width.calls k (⟨#[226, 130, 172]⟩ : ByteArray) 0 t115 t116 _ A4.out).mono ?_); rintro e w' ⟨rfl, ⟨nd, rfl⟩⟩; refine ⟨_, rfl, ?_⟩) | ((with_reducible refine gate_callee (f := 10) rfl ?_); refine goesL_ (some 30) rfl rfl Try.func10 (by kernel_rfl) rfl #[.string (⟨#[226, 130, 172]⟩ : ByteArray), .int .i64 1] rfl (by (try simp only [List.map_toArray, List.map_cons, List.map_nil]); first | done | rfl | (simp only [List.length_drop, List.length_take]; rfl)) ?_; (with_reducible refine (source_Width.calls k (⟨#[226, 130, 172]⟩ : ByteArray) 1 t117 t118 _ A5.out).mono ?_); rintro e w' ⟨rfl, ⟨nd, rfl⟩⟩; refine ⟨_, rfl, ?_⟩) | ((with_reducible refine gate_callee (f := 10) rfl ?_); refine goesL_ (some 34) rfl rfl Try.func10 (by kernel_rfl) rfl #[.string (⟨#[97]⟩ : ByteArray), .int .i64 1] rfl (by (try simp only [List.map_toArray, List.map_cons, List.map_nil]); first | done | rfl | (simp only [List.length_drop, List.length_take]; rfl)) ?_; (with_reducible refine (source_Width.calls k (⟨#[97]⟩ : ByteArray) 1 t119 t120 _ A6.out).mono ?_); rintro e w' ⟨rfl, ⟨nd, rfl⟩⟩; refine ⟨_, rfl, ?_⟩))
                go_ret
                exact ⟨by first | rfl | (simp; done) | (simp [*]; done), by repeat (first | exact Drawn0.refl _ | apply Drawn0.step)⟩
          · rw [if_neg c11] at H
            have c11b0 : (t113 == 1) = false := beq_eq_false_iff_ne.mpr c11
            have c11b1 : (t113 != 1) = true := bne_iff_ne.mpr c11
            obtain rfl := Option.some.inj H
            go_enter Try.func13, Try.ntmps13
            go_wp2_with (first | ((with_reducible refine gate_callee (f := 8) rfl ?_); refine goesL_ (some 14) rfl rfl Try.func8 (by kernel_rfl) rfl #[.string (⟨#[97, 195, 169, 226, 130, 172, 240, 159, 152, 128]⟩ : ByteArray)] rfl (by (try simp only [List.map_toArray, List.map_cons, List.map_nil]); first | done | rfl | (simp only [List.length_drop, List.length_take]; rfl)) ?_; (with_reducible refine (source_Valid.calls k (⟨#[97, 195, 169, 226, 130, 172, 240, 159, 152, 128]⟩ : ByteArray) t109 true _ A1.out).mono ?_); rintro e w' ⟨rfl, ⟨nd, rfl⟩⟩; refine ⟨_, rfl, ?_⟩) | ((with_reducible refine gate_callee (f := 8) rfl ?_); refine goesL_ (some 18) rfl rfl Try.func8 (by kernel_rfl) rfl #[.string (⟨#[97, 98, 237, 160, 128]⟩ : ByteArray)] rfl (by (try simp only [List.map_toArray, List.map_cons, List.map_nil]); first | done | rfl | (simp only [List.length_drop, List.length_take]; rfl)) ?_; (with_reducible refine (source_Valid.calls k (⟨#[97, 98, 237, 160, 128]⟩ : ByteArray) t111 false _ A2.out).mono ?_); rintro e w' ⟨rfl, ⟨nd, rfl⟩⟩; refine ⟨_, rfl, ?_⟩) | ((with_reducible refine gate_callee (f := 8) rfl ?_); refine goesL_ (some 22) rfl rfl Try.func8 (by kernel_rfl) rfl #[.string (⟨#[120, 195]⟩ : ByteArray)] rfl (by (try simp only [List.map_toArray, List.map_cons, List.map_nil]); first | done | rfl | (simp only [List.length_drop, List.length_take]; rfl)) ?_; (with_reducible refine (source_Valid.calls k (⟨#[120, 195]⟩ : ByteArray) t113 t114 _ A3.out).mono ?_); rintro e w' ⟨rfl, ⟨nd, rfl⟩⟩; refine ⟨_, rfl, ?_⟩) | ((with_reducible refine gate_callee (f := 10) rfl ?_); refine goesL_ (some 26) rfl rfl Try.func10 (by kernel_rfl) rfl #[.string (⟨#[226, 130, 172]⟩ : ByteArray), .int .i64 0] rfl (by (try simp only [List.map_toArray, List.map_cons, List.map_nil]); first | done | rfl | (simp only [List.length_drop, List.length_take]; rfl)) ?_; (with_reducible refine (source_Width.calls k (⟨#[226, 130, 172]⟩ : ByteArray) 0 t115 t116 _ A4.out).mono ?_); rintro e w' ⟨rfl, ⟨nd, rfl⟩⟩; refine ⟨_, rfl, ?_⟩) | ((with_reducible refine gate_callee (f := 10) rfl ?_); refine goesL_ (some 30) rfl rfl Try.func10 (by kernel_rfl) rfl #[.string (⟨#[226, 130, 172]⟩ : ByteArray), .int .i64 1] rfl (by (try simp only [List.map_toArray, List.map_cons, List.map_nil]); first | done | rfl | (simp only [List.length_drop, List.length_take]; rfl)) ?_; (with_reducible refine (source_Width.calls k (⟨#[226, 130, 172]⟩ : ByteArray) 1 t117 t118 _ A5.out).mono ?_); rintro e w' ⟨rfl, ⟨nd, rfl⟩⟩; refine ⟨_, rfl, ?_⟩) | ((with_reducible refine gate_callee (f := 10) rfl ?_); refine goesL_ (some 34) rfl rfl Try.func10 (by kernel_rfl) rfl #[.string (⟨#[97]⟩ : ByteArray), .int .i64 1] rfl (by (try simp only [List.map_toArray, List.map_cons, List.map_nil]); first | done | rfl | (simp only [List.length_drop, List.length_take]; rfl)) ?_; (with_reducible refine (source_Width.calls k (⟨#[97]⟩ : ByteArray) 1 t119 t120 _ A6.out).mono ?_); rintro e w' ⟨rfl, ⟨nd, rfl⟩⟩; refine ⟨_, rfl, ?_⟩))
            go_ret
            exact ⟨by first | rfl | (simp; done) | (simp [*]; done), by repeat (first | exact Drawn0.refl _ | apply Drawn0.step)⟩
      · rw [if_neg c9] at H
        have c9b0 : (t111 == 2) = false := beq_eq_false_iff_ne.mpr c9
        have c9b1 : (t111 != 2) = true := bne_iff_ne.mpr c9
        obtain rfl := Option.some.inj H
        go_enter Try.func13, Try.ntmps13
        go_wp2_with (first | ((with_reducible refine gate_callee (f := 8) rfl ?_); refine goesL_ (some 14) rfl rfl Try.func8 (by kernel_rfl) rfl #[.string (⟨#[97, 195, 169, 226, 130, 172, 240, 159, 152, 128]⟩ : ByteArray)] rfl (by (try simp only [List.map_toArray, List.map_cons, List.map_nil]); first | done | rfl | (simp only [List.length_drop, List.length_take]; rfl)) ?_; (with_reducible refine (source_Valid.calls k (⟨#[97, 195, 169, 226, 130, 172, 240, 159, 152, 128]⟩ : ByteArray) t109 true _ A1.out).mono ?_); rintro e w' ⟨rfl, ⟨nd, rfl⟩⟩; refine ⟨_, rfl, ?_⟩) | ((with_reducible refine gate_callee (f := 8) rfl ?_); refine goesL_ (some 18) rfl rfl Try.func8 (by kernel_rfl) rfl #[.string (⟨#[97, 98, 237, 160, 128]⟩ : ByteArray)] rfl (by (try simp only [List.map_toArray, List.map_cons, List.map_nil]); first | done | rfl | (simp only [List.length_drop, List.length_take]; rfl)) ?_; (with_reducible refine (source_Valid.calls k (⟨#[97, 98, 237, 160, 128]⟩ : ByteArray) t111 t112 _ A2.out).mono ?_); rintro e w' ⟨rfl, ⟨nd, rfl⟩⟩; refine ⟨_, rfl, ?_⟩) | ((with_reducible refine gate_callee (f := 8) rfl ?_); refine goesL_ (some 22) rfl rfl Try.func8 (by kernel_rfl) rfl #[.string (⟨#[120, 195]⟩ : ByteArray)] rfl (by (try simp only [List.map_toArray, List.map_cons, List.map_nil]); first | done | rfl | (simp only [List.length_drop, List.length_take]; rfl)) ?_; (with_reducible refine (source_Valid.calls k (⟨#[120, 195]⟩ : ByteArray) t113 t114 _ A3.out).mono ?_); rintro e w' ⟨rfl, ⟨nd, rfl⟩⟩; refine ⟨_, rfl, ?_⟩) | ((with_reducible refine gate_callee (f := 10) rfl ?_); refine goesL_ (some 26) rfl rfl Try.func10 (by kernel_rfl) rfl #[.string (⟨#[226, 130, 172]⟩ : ByteArray), .int .i64 0] rfl (by (try simp only [List.map_toArray, List.map_cons, List.map_nil]); first | done | rfl | (simp only [List.length_drop, List.length_take]; rfl)) ?_; (with_reducible refine (source_Width.calls k (⟨#[226, 130, 172]⟩ : ByteArray) 0 t115 t116 _ A4.out).mono ?_); rintro e w' ⟨rfl, ⟨nd, rfl⟩⟩; refine ⟨_, rfl, ?_⟩) | ((with_reducible refine gate_callee (f := 10) rfl ?_); refine goesL_ (some 30) rfl rfl Try.func10 (by kernel_rfl) rfl #[.string (⟨#[226, 130, 172]⟩ : ByteArray), .int .i64 1] rfl (by (try simp only [List.map_toArray, List.map_cons, List.map_nil]); first | done | rfl | (simp only [List.length_drop, List.length_take]; rfl)) ?_; (with_reducible refine (source_Width.calls k (⟨#[226, 130, 172]⟩ : ByteArray) 1 t117 t118 _ A5.out).mono ?_); rintro e w' ⟨rfl, ⟨nd, rfl⟩⟩; refine ⟨_, rfl, ?_⟩) | ((with_reducible refine gate_callee (f := 10) rfl ?_); refine goesL_ (some 34) rfl rfl Try.func10 (by kernel_rfl) rfl #[.string (⟨#[97]⟩ : ByteArray), .int .i64 1] rfl (by (try simp only [List.map_toArray, List.map_cons, List.map_nil]); first | done | rfl | (simp only [List.length_drop, List.length_take]; rfl)) ?_; (with_reducible refine (source_Width.calls k (⟨#[97]⟩ : ByteArray) 1 t119 t120 _ A6.out).mono ?_); rintro e w' ⟨rfl, ⟨nd, rfl⟩⟩; refine ⟨_, rfl, ?_⟩))
        go_ret
        exact ⟨by first | rfl | (simp; done) | (simp [*]; done), by repeat (first | exact Drawn0.refl _ | apply Drawn0.step)⟩
    · replace c8 := Bool.eq_false_iff.mpr c8
      subst c8
      have H1 : (some false) = some r := by rw [if_neg (show ¬ (false = true) by decide)] at H; exact H
      clear H
      have H := H1
      clear H1
      obtain rfl := Option.some.inj H
      go_enter Try.func13, Try.ntmps13
      go_wp2_with (first | ((with_reducible refine gate_callee (f := 8) rfl ?_); refine goesL_ (some 14) rfl rfl Try.func8 (by kernel_rfl) rfl #[.string (⟨#[97, 195, 169, 226, 130, 172, 240, 159, 152, 128]⟩ : ByteArray)] rfl (by (try simp only [List.map_toArray, List.map_cons, List.map_nil]); first | done | rfl | (simp only [List.length_drop, List.length_take]; rfl)) ?_; (with_reducible refine (source_Valid.calls k (⟨#[97, 195, 169, 226, 130, 172, 240, 159, 152, 128]⟩ : ByteArray) t109 false _ A1.out).mono ?_); rintro e w' ⟨rfl, ⟨nd, rfl⟩⟩; refine ⟨_, rfl, ?_⟩) | ((with_reducible refine gate_callee (f := 8) rfl ?_); refine goesL_ (some 18) rfl rfl Try.func8 (by kernel_rfl) rfl #[.string (⟨#[97, 98, 237, 160, 128]⟩ : ByteArray)] rfl (by (try simp only [List.map_toArray, List.map_cons, List.map_nil]); first | done | rfl | (simp only [List.length_drop, List.length_take]; rfl)) ?_; (with_reducible refine (source_Valid.calls k (⟨#[97, 98, 237, 160, 128]⟩ : ByteArray) t111 t112 _ A2.out).mono ?_); rintro e w' ⟨rfl, ⟨nd, rfl⟩⟩; refine ⟨_, rfl, ?_⟩) | ((with_reducible refine gate_callee (f := 8) rfl ?_); refine goesL_ (some 22) rfl rfl Try.func8 (by kernel_rfl) rfl #[.string (⟨#[120, 195]⟩ : ByteArray)] rfl (by (try simp only [List.map_toArray, List.map_cons, List.map_nil]); first | done | rfl | (simp only [List.length_drop, List.length_take]; rfl)) ?_; (with_reducible refine (source_Valid.calls k (⟨#[120, 195]⟩ : ByteArray) t113 t114 _ A3.out).mono ?_); rintro e w' ⟨rfl, ⟨nd, rfl⟩⟩; refine ⟨_, rfl, ?_⟩) | ((with_reducible refine gate_callee (f := 10) rfl ?_); refine goesL_ (some 26) rfl rfl Try.func10 (by kernel_rfl) rfl #[.string (⟨#[226, 130, 172]⟩ : ByteArray), .int .i64 0] rfl (by (try simp only [List.map_toArray, List.map_cons, List.map_nil]); first | done | rfl | (simp only [List.length_drop, List.length_take]; rfl)) ?_; (with_reducible refine (source_Width.calls k (⟨#[226, 130, 172]⟩ : ByteArray) 0 t115 t116 _ A4.out).mono ?_); rintro e w' ⟨rfl, ⟨nd, rfl⟩⟩; refine ⟨_, rfl, ?_⟩) | ((with_reducible refine gate_callee (f := 10) rfl ?_); refine goesL_ (some 30) rfl rfl Try.func10 (by kernel_rfl) rfl #[.string (⟨#[226, 130, 172]⟩ : ByteArray), .int .i64 1] rfl (by (try simp only [List.map_toArray, List.map_cons, List.map_nil]); first | done | rfl | (simp only [List.length_drop, List.length_take]; rfl)) ?_; (with_reducible refine (source_Width.calls k (⟨#[226, 130, 172]⟩ : ByteArray) 1 t117 t118 _ A5.out).mono ?_); rintro e w' ⟨rfl, ⟨nd, rfl⟩⟩; refine ⟨_, rfl, ?_⟩) | ((with_reducible refine gate_callee (f := 10) rfl ?_); refine goesL_ (some 34) rfl rfl Try.func10 (by kernel_rfl) rfl #[.string (⟨#[97]⟩ : ByteArray), .int .i64 1] rfl (by (try simp only [List.map_toArray, List.map_cons, List.map_nil]); first | done | rfl | (simp only [List.length_drop, List.length_take]; rfl)) ?_; (with_reducible refine (source_Width.calls k (⟨#[97]⟩ : ByteArray) 1 t119 t120 _ A6.out).mono ?_); rintro e w' ⟨rfl, ⟨nd, rfl⟩⟩; refine ⟨_, rfl, ?_⟩))
      go_ret
      exact ⟨by first | rfl | (simp; done) | (simp [*]; done), by repeat (first | exact Drawn0.refl _ | apply Drawn0.step)⟩
  · rw [if_neg c7] at H
    have c7b0 : (t109 == 0) = false := beq_eq_false_iff_ne.mpr c7
    have c7b1 : (t109 != 0) = true := bne_iff_ne.mpr c7
    obtain rfl := Option.some.inj H
    go_enter Try.func13, Try.ntmps13
    go_wp2_with (first | ((with_reducible refine gate_callee (f := 8) rfl ?_); refine goesL_ (some 14) rfl rfl Try.func8 (by kernel_rfl) rfl #[.string (⟨#[97, 195, 169, 226, 130, 172, 240, 159, 152, 128]⟩ : ByteArray)] rfl (by (try simp only [List.map_toArray, List.map_cons, List.map_nil]); first | done | rfl | (simp only [List.length_drop, List.length_take]; rfl)) ?_; (with_reducible refine (source_Valid.calls k (⟨#[97, 195, 169, 226, 130, 172, 240, 159, 152, 128]⟩ : ByteArray) t109 t110 _ A1.out).mono ?_); rintro e w' ⟨rfl, ⟨nd, rfl⟩⟩; refine ⟨_, rfl, ?_⟩) | ((with_reducible refine gate_callee (f := 8) rfl ?_); refine goesL_ (some 18) rfl rfl Try.func8 (by kernel_rfl) rfl #[.string (⟨#[97, 98, 237, 160, 128]⟩ : ByteArray)] rfl (by (try simp only [List.map_toArray, List.map_cons, List.map_nil]); first | done | rfl | (simp only [List.length_drop, List.length_take]; rfl)) ?_; (with_reducible refine (source_Valid.calls k (⟨#[97, 98, 237, 160, 128]⟩ : ByteArray) t111 t112 _ A2.out).mono ?_); rintro e w' ⟨rfl, ⟨nd, rfl⟩⟩; refine ⟨_, rfl, ?_⟩) | ((with_reducible refine gate_callee (f := 8) rfl ?_); refine goesL_ (some 22) rfl rfl Try.func8 (by kernel_rfl) rfl #[.string (⟨#[120, 195]⟩ : ByteArray)] rfl (by (try simp only [List.map_toArray, List.map_cons, List.map_nil]); first | done | rfl | (simp only [List.length_drop, List.length_take]; rfl)) ?_; (with_reducible refine (source_Valid.calls k (⟨#[120, 195]⟩ : ByteArray) t113 t114 _ A3.out).mono ?_); rintro e w' ⟨rfl, ⟨nd, rfl⟩⟩; refine ⟨_, rfl, ?_⟩) | ((with_reducible refine gate_callee (f := 10) rfl ?_); refine goesL_ (some 26) rfl rfl Try.func10 (by kernel_rfl) rfl #[.string (⟨#[226, 130, 172]⟩ : ByteArray), .int .i64 0] rfl (by (try simp only [List.map_toArray, List.map_cons, List.map_nil]); first | done | rfl | (simp only [List.length_drop, List.length_take]; rfl)) ?_; (with_reducible refine (source_Width.calls k (⟨#[226, 130, 172]⟩ : ByteArray) 0 t115 t116 _ A4.out).mono ?_); rintro e w' ⟨rfl, ⟨nd, rfl⟩⟩; refine ⟨_, rfl, ?_⟩) | ((with_reducible refine gate_callee (f := 10) rfl ?_); refine goesL_ (some 30) rfl rfl Try.func10 (by kernel_rfl) rfl #[.string (⟨#[226, 130, 172]⟩ : ByteArray), .int .i64 1] rfl (by (try simp only [List.map_toArray, List.map_cons, List.map_nil]); first | done | rfl | (simp only [List.length_drop, List.length_take]; rfl)) ?_; (with_reducible refine (source_Width.calls k (⟨#[226, 130, 172]⟩ : ByteArray) 1 t117 t118 _ A5.out).mono ?_); rintro e w' ⟨rfl, ⟨nd, rfl⟩⟩; refine ⟨_, rfl, ?_⟩) | ((with_reducible refine gate_callee (f := 10) rfl ?_); refine goesL_ (some 34) rfl rfl Try.func10 (by kernel_rfl) rfl #[.string (⟨#[97]⟩ : ByteArray), .int .i64 1] rfl (by (try simp only [List.map_toArray, List.map_cons, List.map_nil]); first | done | rfl | (simp only [List.length_drop, List.length_take]; rfl)) ?_; (with_reducible refine (source_Width.calls k (⟨#[97]⟩ : ByteArray) 1 t119 t120 _ A6.out).mono ?_); rintro e w' ⟨rfl, ⟨nd, rfl⟩⟩; refine ⟨_, rfl, ?_⟩))
    go_ret
    exact ⟨by first | rfl | (simp; done) | (simp [*]; done), by repeat (first | exact Drawn0.refl _ | apply Drawn0.step)⟩

/-! ### trammellaw1_SourceParts: function 4 -/
def trammellaw1_SourceParts.j0 : Nat → ByteArray → Int → Bool → Int → Int → Bool → Bool → Option (Bool)
  | 0, _, _, _, _, _, _, _ => none
  | k + 1, x0, x5, x6, x7, x9, x10, x30 => if x30 = true then (if x10 = true then (some (x9 == 0)) else (some false)) else (if x6 = true then (if x10 = true then (some false) else (some (x9 == (wrap64 ((x0.size : Int) + x7))))) else (if x5 < 0 then (some false) else (if x5 ≥ (x0.size : Int) then (some false) else (if x10 = true then (if (wrap64 ((x0.size : Int) - x5)) < 4 then (some true) else (some false)) else (if x9 = x5 then (some true) else (if (wrap64 ((x0.size : Int) - x5)) < 4 then (some (decide (x9 ≥ x5))) else (some false)))))))
def trammellaw1_SourceParts.f (k : Nat) (a0 : ByteArray) (a1 : ByteArray) : Option (Bool) := (trammellaw1_awake.f k).bind fun t124 => (if t124 = true then ((source_Valid.f k a0).bind fun bt125 => ((source_Valid.f k a1).bind fun bt127 => (if a0.size + a1.size ≤ 9223372036854775807 then ((source_Valid.f k (a0 ++ a1)).bind fun bt129 => (if bt125.2 = true then (trammellaw1_SourceParts.j0 k a0 bt125.1 bt125.2 bt127.1 bt129.1 bt129.2 bt127.2) else (trammellaw1_SourceParts.j0 k a0 bt125.1 bt125.2 bt127.1 bt129.1 bt129.2 false))) else (none)))) else (some false))
theorem trammellaw1_SourceParts.mono_l : ∀ k, (∀ y0 y1 y2 y3 y4 y5 y6, LeO (trammellaw1_SourceParts.j0 k y0 y1 y2 y3 y4 y5 y6) (trammellaw1_SourceParts.j0 (k + 1) y0 y1 y2 y3 y4 y5 y6))
  | 0 => fun _ _ _ _ _ _ _ r h => by simp [trammellaw1_SourceParts.j0] at h
  | k + 1 => by
    have ih0 := trammellaw1_SourceParts.mono_l k
    · intro y0 y1 y2 y3 y4 y5 y6
      unfold trammellaw1_SourceParts.j0
      repeat' first
      | (with_reducible exact ih0 _ _ _ _ _ _ _)
      | (with_reducible exact source_Valid.mono _ _)
      | (with_reducible exact trammellaw1_awake.mono _)
      | (with_reducible exact LeO.refl _)
      | (with_reducible exact LeO.none _)
      | (with_reducible refine LeO.ite ?_ ?_)
      | (with_reducible refine LeO.bind ?_ (fun _ => ?_))
      | exact ih0 _ _ _ _ _ _ _
      | exact source_Valid.mono _ _
      | exact trammellaw1_awake.mono _
      | exact LeO.none _
      | refine LeO.ite ?_ ?_
      | refine LeO.bind ?_ (fun _ => ?_)
theorem trammellaw1_SourceParts.mono : ∀ a0 a1 k, LeO (trammellaw1_SourceParts.f k a0 a1) (trammellaw1_SourceParts.f (k + 1) a0 a1) := by
  intro a0 a1 k
  have ih0 := trammellaw1_SourceParts.mono_l k
  unfold trammellaw1_SourceParts.f
  repeat' first
      | (with_reducible exact ih0 _ _ _ _ _ _ _)
      | (with_reducible exact source_Valid.mono _ _)
      | (with_reducible exact trammellaw1_awake.mono _)
      | (with_reducible exact LeO.refl _)
      | (with_reducible exact LeO.none _)
      | (with_reducible refine LeO.ite ?_ ?_)
      | (with_reducible refine LeO.bind ?_ (fun _ => ?_))
      | exact ih0 _ _ _ _ _ _ _
      | exact source_Valid.mono _ _
      | exact trammellaw1_awake.mono _
      | exact LeO.none _
      | refine LeO.ite ?_ ?_
      | refine LeO.bind ?_ (fun _ => ?_)
set_option maxHeartbeats 8000000 in
set_option maxRecDepth 100000 in
theorem trammellaw1_SourceParts.calls (k : Nat) (a0 : ByteArray) (a1 : ByteArray) (r : Bool) (w : World) (h : trammellaw1_SourceParts.f k a0 a1 = some r) :
    Calls Try.prog 4 #[.string a0, .string a1] w fun e w' => e = .returned (.bool r) ∧ Drawn0 w w' := by
  have H : ((trammellaw1_awake.f k).bind fun t124 => (if t124 = true then ((source_Valid.f k a0).bind fun bt125 => ((source_Valid.f k a1).bind fun bt127 => (if a0.size + a1.size ≤ 9223372036854775807 then ((source_Valid.f k (a0 ++ a1)).bind fun bt129 => (if bt125.2 = true then (trammellaw1_SourceParts.j0 k a0 bt125.1 bt125.2 bt127.1 bt129.1 bt129.2 bt127.2) else (trammellaw1_SourceParts.j0 k a0 bt125.1 bt125.2 bt127.1 bt129.1 bt129.2 false))) else (none)))) else (some false))) = some r := h
  clear h
  replace H := Option.bind_eq_some_iff.mp H
  obtain ⟨t124, A30, H⟩ := H
  replace H : (if t124 = true then ((source_Valid.f k a0).bind fun bt125 => ((source_Valid.f k a1).bind fun bt127 => (if a0.size + a1.size ≤ 9223372036854775807 then ((source_Valid.f k (a0 ++ a1)).bind fun bt129 => (if bt125.2 = true then (trammellaw1_SourceParts.j0 k a0 bt125.1 bt125.2 bt127.1 bt129.1 bt129.2 bt127.2) else (trammellaw1_SourceParts.j0 k a0 bt125.1 bt125.2 bt127.1 bt129.1 bt129.2 false))) else (none)))) else (some false)) = some r := H
  have A3 := Aside0.mk A30
  clear A30
  by_cases c4 : t124 = true
  · subst c4
    have H1 : ((source_Valid.f k a0).bind fun bt125 => ((source_Valid.f k a1).bind fun bt127 => (if a0.size + a1.size ≤ 9223372036854775807 then ((source_Valid.f k (a0 ++ a1)).bind fun bt129 => (if bt125.2 = true then (trammellaw1_SourceParts.j0 k a0 bt125.1 bt125.2 bt127.1 bt129.1 bt129.2 bt127.2) else (trammellaw1_SourceParts.j0 k a0 bt125.1 bt125.2 bt127.1 bt129.1 bt129.2 false))) else (none)))) = some r := by rw [if_pos rfl] at H; exact H
    clear H
    have H := H1
    clear H1
    replace H := Option.bind_eq_some_iff.mp H
    obtain ⟨⟨t125, t126⟩, A50, H⟩ := H
    replace H : ((source_Valid.f k a1).bind fun bt127 => (if a0.size + a1.size ≤ 9223372036854775807 then ((source_Valid.f k (a0 ++ a1)).bind fun bt129 => (if t126 = true then (trammellaw1_SourceParts.j0 k a0 t125 t126 bt127.1 bt129.1 bt129.2 bt127.2) else (trammellaw1_SourceParts.j0 k a0 t125 t126 bt127.1 bt129.1 bt129.2 false))) else (none))) = some r := H
    have A5 := Aside0.mk A50
    clear A50
    replace H := Option.bind_eq_some_iff.mp H
    obtain ⟨⟨t127, t128⟩, A60, H⟩ := H
    replace H : (if a0.size + a1.size ≤ 9223372036854775807 then ((source_Valid.f k (a0 ++ a1)).bind fun bt129 => (if t126 = true then (trammellaw1_SourceParts.j0 k a0 t125 t126 t127 bt129.1 bt129.2 t128) else (trammellaw1_SourceParts.j0 k a0 t125 t126 t127 bt129.1 bt129.2 false))) else (none)) = some r := H
    have A6 := Aside0.mk A60
    clear A60
    by_cases c7 : a0.size + a1.size ≤ 9223372036854775807
    · rw [if_pos c7] at H
      have c7b0 := eq_true c7
      have c7b1 : decide (a0.size + a1.size ≤ 9223372036854775807) = true := decide_eq_true c7
      try have c7b2 : (9223372036854775807 < a0.size + a1.size) = False := eq_false (Nat.not_lt.2 c7)
      replace H := Option.bind_eq_some_iff.mp H
      obtain ⟨⟨t129, t130⟩, A80, H⟩ := H
      replace H : (if t126 = true then (trammellaw1_SourceParts.j0 k a0 t125 t126 t127 t129 t130 t128) else (trammellaw1_SourceParts.j0 k a0 t125 t126 t127 t129 t130 false)) = some r := H
      have A8 := Aside0.mk A80
      clear A80
      have HC9 := Aside0.mk H
      clear H
      go_enter Try.func4, Try.ntmps4
      go_upto_region 6 with (first | ((with_reducible refine gate_callee (f := 13) rfl ?_); refine goesL_ (some 11) rfl rfl Try.func13 (by kernel_rfl) rfl #[] rfl (by (try simp only [List.map_toArray, List.map_cons, List.map_nil]); first | done | rfl | (simp only [List.length_drop, List.length_take]; rfl)) ?_; (with_reducible refine (trammellaw1_awake.calls k  true _ A3.out).mono ?_); rintro e w' ⟨rfl, ⟨nd, rfl⟩⟩; refine ⟨_, rfl, ?_⟩) | ((with_reducible refine gate_callee (f := 8) rfl ?_); refine goesL_ (some 15) rfl rfl Try.func8 (by kernel_rfl) rfl #[.string a0] rfl (by (try simp only [List.map_toArray, List.map_cons, List.map_nil]); first | done | rfl | (simp only [List.length_drop, List.length_take]; rfl)) ?_; (with_reducible refine (source_Valid.calls k a0 t125 t126 _ A5.out).mono ?_); rintro e w' ⟨rfl, ⟨nd, rfl⟩⟩; refine ⟨_, rfl, ?_⟩) | ((with_reducible refine gate_callee (f := 8) rfl ?_); refine goesL_ (some 20) rfl rfl Try.func8 (by kernel_rfl) rfl #[.string a1] rfl (by (try simp only [List.map_toArray, List.map_cons, List.map_nil]); first | done | rfl | (simp only [List.length_drop, List.length_take]; rfl)) ?_; (with_reducible refine (source_Valid.calls k a1 t127 t128 _ A6.out).mono ?_); rintro e w' ⟨rfl, ⟨nd, rfl⟩⟩; refine ⟨_, rfl, ?_⟩) | ((with_reducible refine gate_callee (f := 8) rfl ?_); refine goesL_ (some 27) rfl rfl Try.func8 (by kernel_rfl) rfl #[.string (a0 ++ a1)] rfl (by (try simp only [List.map_toArray, List.map_cons, List.map_nil]); first | done | rfl | (simp only [List.length_drop, List.length_take]; rfl)) ?_; (with_reducible refine (source_Valid.calls k (a0 ++ a1) t129 t130 _ A8.out).mono ?_); rintro e w' ⟨rfl, ⟨nd, rfl⟩⟩; refine ⟨_, rfl, ?_⟩))
      (try simp only [Act.put, List.setIfInBounds_toArray, List.set_cons_zero, List.set_cons_succ])
      go_cut [30] (fun v30 wc => ∃ (kq : Nat) (x30_8 : Bool), v30 = .bool x30_8 ∧ Aside0 (trammellaw1_SourceParts.j0 kq a0 t125 t126 t127 t129 t130 x30_8 = some r) ∧ Aside0 (kq ≤ k) ∧ Drawn0 w wc)
      case first =>
        have H := HC9.out
        clear HC9
        by_cases c10 : t126 = true
        · subst c10
          have H1 : (trammellaw1_SourceParts.j0 k a0 t125 true t127 t129 t130 t128) = some r := by rw [if_pos rfl] at H; exact H
          clear H
          have H := H1
          clear H1
          have H' := Aside0.mk H
          clear H
          go_wp2
          go_meet
          case rel => exact ⟨_, (t128), (by first | rfl | (simp; done) | (simp [*]; done)), H', ⟨by first | omega | exact Nat.le_refl _⟩, by repeat (first | exact Drawn0.refl _ | apply Drawn0.step)⟩
        · replace c10 := Bool.eq_false_iff.mpr c10
          subst c10
          have H1 : (trammellaw1_SourceParts.j0 k a0 t125 false t127 t129 t130 false) = some r := by rw [if_neg (show ¬ (false = true) by decide)] at H; exact H
          clear H
          have H := H1
          clear H1
          have H' := Aside0.mk H
          clear H
          go_wp2
          go_meet
          case rel => exact ⟨_, (false), (by first | rfl | (simp; done) | (simp [*]; done)), H', ⟨by first | omega | exact Nat.le_refl _⟩, by repeat (first | exact Drawn0.refl _ | apply Drawn0.step)⟩
      case rest =>
        clear HC9
        try clear c1
        try clear p2
        try clear c4
        try clear c7
        try clear c7b0
        try clear c7b1
        try clear c7b2
        try clear c8
        try clear c10
        obtain ⟨kq, x30_8, rfl, HA, HJ8, ⟨mc8, rfl⟩⟩ := hcut
        cases kq with
        | zero => exact absurd HA.out (by simp [trammellaw1_SourceParts.j0])
        | succ kj8 =>
          have H := HA.out
          clear HA
          simp only [trammellaw1_SourceParts.j0] at H
          by_cases c11 : x30_8 = true
          · subst c11
            have H1 : (if t130 = true then (some (t129 == 0)) else (some false)) = some r := by rw [if_pos rfl] at H; exact H
            clear H
            have H := H1
            clear H1
            by_cases c12 : t130 = true
            · subst c12
              have H1 : (some (t129 == 0)) = some r := by rw [if_pos rfl] at H; exact H
              clear H
              have H := H1
              clear H1
              obtain rfl := Option.some.inj H
              go_wp2
              go_ret
              exact ⟨by first | rfl | (simp; done) | (simp [*]; done), by repeat (first | exact Drawn0.refl _ | apply Drawn0.step)⟩
            · replace c12 := Bool.eq_false_iff.mpr c12
              subst c12
              have H1 : (some false) = some r := by rw [if_neg (show ¬ (false = true) by decide)] at H; exact H
              clear H
              have H := H1
              clear H1
              obtain rfl := Option.some.inj H
              go_wp2
              go_ret
              exact ⟨by first | rfl | (simp; done) | (simp [*]; done), by repeat (first | exact Drawn0.refl _ | apply Drawn0.step)⟩
          · replace c11 := Bool.eq_false_iff.mpr c11
            subst c11
            have H1 : (if t126 = true then (if t130 = true then (some false) else (some (t129 == (wrap64 ((a0.size : Int) + t127))))) else (if t125 < 0 then (some false) else (if t125 ≥ (a0.size : Int) then (some false) else (if t130 = true then (if (wrap64 ((a0.size : Int) - t125)) < 4 then (some true) else (some false)) else (if t129 = t125 then (some true) else (if (wrap64 ((a0.size : Int) - t125)) < 4 then (some (decide (t129 ≥ t125))) else (some false))))))) = some r := by rw [if_neg (show ¬ (false = true) by decide)] at H; exact H
            clear H
            have H := H1
            clear H1
            by_cases c13 : t126 = true
            · subst c13
              have H1 : (if t130 = true then (some false) else (some (t129 == (wrap64 ((a0.size : Int) + t127))))) = some r := by rw [if_pos rfl] at H; exact H
              clear H
              have H := H1
              clear H1
              by_cases c14 : t130 = true
              · subst c14
                have H1 : (some false) = some r := by rw [if_pos rfl] at H; exact H
                clear H
                have H := H1
                clear H1
                obtain rfl := Option.some.inj H
                go_wp2
                go_ret
                exact ⟨by first | rfl | (simp; done) | (simp [*]; done), by repeat (first | exact Drawn0.refl _ | apply Drawn0.step)⟩
              · replace c14 := Bool.eq_false_iff.mpr c14
                subst c14
                have H1 : (some (t129 == (wrap64 ((a0.size : Int) + t127)))) = some r := by rw [if_neg (show ¬ (false = true) by decide)] at H; exact H
                clear H
                have H := H1
                clear H1
                obtain rfl := Option.some.inj H
                go_wp2
                go_ret
                exact ⟨by first | rfl | (simp; done) | (simp [*]; done), by repeat (first | exact Drawn0.refl _ | apply Drawn0.step)⟩
            · replace c13 := Bool.eq_false_iff.mpr c13
              subst c13
              have H1 : (if t125 < 0 then (some false) else (if t125 ≥ (a0.size : Int) then (some false) else (if t130 = true then (if (wrap64 ((a0.size : Int) - t125)) < 4 then (some true) else (some false)) else (if t129 = t125 then (some true) else (if (wrap64 ((a0.size : Int) - t125)) < 4 then (some (decide (t129 ≥ t125))) else (some false)))))) = some r := by rw [if_neg (show ¬ (false = true) by decide)] at H; exact H
              clear H
              have H := H1
              clear H1
              by_cases c15 : t125 < 0
              · rw [if_pos c15] at H
                have c15b0 : decide (t125 < 0) = true := decide_eq_true c15
                clear c15
                obtain rfl := Option.some.inj H
                go_wp2
                go_ret
                exact ⟨by first | rfl | (simp; done) | (simp [*]; done), by repeat (first | exact Drawn0.refl _ | apply Drawn0.step)⟩
              · rw [if_neg c15] at H
                have c15b0 : decide (t125 < 0) = false := decide_eq_false c15
                clear c15
                by_cases c16 : t125 ≥ (a0.size : Int)
                · rw [if_pos c16] at H
                  have c16b0 : decide ((a0.size : Int) ≤ t125) = true := decide_eq_true c16
                  clear c16
                  obtain rfl := Option.some.inj H
                  go_wp2
                  go_ret
                  exact ⟨by first | rfl | (simp; done) | (simp [*]; done), by repeat (first | exact Drawn0.refl _ | apply Drawn0.step)⟩
                · rw [if_neg c16] at H
                  have c16b0 : decide ((a0.size : Int) ≤ t125) = false := decide_eq_false c16
                  clear c16
                  by_cases c17 : t130 = true
                  · subst c17
                    have H1 : (if (wrap64 ((a0.size : Int) - t125)) < 4 then (some true) else (some false)) = some r := by rw [if_pos rfl] at H; exact H
                    clear H
                    have H := H1
                    clear H1
                    by_cases c18 : (wrap64 ((a0.size : Int) - t125)) < 4
                    · rw [if_pos c18] at H
                      have c18b0 : decide ((wrap64 ((a0.size : Int) - t125)) < 4) = true := decide_eq_true c18
                      clear c18
                      obtain rfl := Option.some.inj H
                      go_wp2
                      go_ret
                      exact ⟨by first | rfl | (simp; done) | (simp [*]; done), by repeat (first | exact Drawn0.refl _ | apply Drawn0.step)⟩
                    · rw [if_neg c18] at H
                      have c18b0 : decide ((wrap64 ((a0.size : Int) - t125)) < 4) = false := decide_eq_false c18
                      clear c18
                      obtain rfl := Option.some.inj H
                      go_wp2
                      go_ret
                      exact ⟨by first | rfl | (simp; done) | (simp [*]; done), by repeat (first | exact Drawn0.refl _ | apply Drawn0.step)⟩
                  · replace c17 := Bool.eq_false_iff.mpr c17
                    subst c17
                    have H1 : (if t129 = t125 then (some true) else (if (wrap64 ((a0.size : Int) - t125)) < 4 then (some (decide (t129 ≥ t125))) else (some false))) = some r := by rw [if_neg (show ¬ (false = true) by decide)] at H; exact H
                    clear H
                    have H := H1
                    clear H1
                    by_cases c19 : t129 = t125
                    · rw [if_pos c19] at H
                      have c19b0 : (t129 == t125) = true := beq_iff_eq.mpr c19
                      have c19b1 : (t129 != t125) = false := bne_eq_false_iff_eq.mpr c19
                      clear c19
                      obtain rfl := Option.some.inj H
                      go_wp2
                      go_ret
                      exact ⟨by first | rfl | (simp; done) | (simp [*]; done), by repeat (first | exact Drawn0.refl _ | apply Drawn0.step)⟩
                    · rw [if_neg c19] at H
                      have c19b0 : (t129 == t125) = false := beq_eq_false_iff_ne.mpr c19
                      have c19b1 : (t129 != t125) = true := bne_iff_ne.mpr c19
                      by_cases c20 : (wrap64 ((a0.size : Int) - t125)) < 4
                      · rw [if_pos c20] at H
                        have c20b0 : decide ((wrap64 ((a0.size : Int) - t125)) < 4) = true := decide_eq_true c20
                        clear c20
                        obtain rfl := Option.some.inj H
                        go_wp2
                        go_ret
                        exact ⟨by first | rfl | (simp; done) | (simp [*]; done), by repeat (first | exact Drawn0.refl _ | apply Drawn0.step)⟩
                      · rw [if_neg c20] at H
                        have c20b0 : decide ((wrap64 ((a0.size : Int) - t125)) < 4) = false := decide_eq_false c20
                        clear c20
                        obtain rfl := Option.some.inj H
                        go_wp2
                        go_ret
                        exact ⟨by first | rfl | (simp; done) | (simp [*]; done), by repeat (first | exact Drawn0.refl _ | apply Drawn0.step)⟩
    · rw [if_neg c7] at H
      exact absurd H (by simp)
  · replace c4 := Bool.eq_false_iff.mpr c4
    subst c4
    have H1 : (some false) = some r := by rw [if_neg (show ¬ (false = true) by decide)] at H; exact H
    clear H
    have H := H1
    clear H1
    obtain rfl := Option.some.inj H
    go_enter Try.func4, Try.ntmps4
    go_wp2_with (first | ((with_reducible refine gate_callee (f := 13) rfl ?_); refine goesL_ (some 11) rfl rfl Try.func13 (by kernel_rfl) rfl #[] rfl (by (try simp only [List.map_toArray, List.map_cons, List.map_nil]); first | done | rfl | (simp only [List.length_drop, List.length_take]; rfl)) ?_; (with_reducible refine (trammellaw1_awake.calls k  false _ A3.out).mono ?_); rintro e w' ⟨rfl, ⟨nd, rfl⟩⟩; refine ⟨_, rfl, ?_⟩))
    go_ret
    exact ⟨by first | rfl | (simp; done) | (simp [*]; done), by repeat (first | exact Drawn0.refl _ | apply Drawn0.step)⟩

/-- THE ONE PURE STATEMENT of trammellaw1_SourceParts: yours. -/
def trammellaw1_SourceParts.Pure : Prop := ∀ (a0 : ByteArray) (a1 : ByteArray), a0.size ≤ 140737488351232 → a1.size ≤ 140737488351232 → ∃ k, trammellaw1_SourceParts.f k a0 a1 = some true
theorem trammellaw1_SourceParts.walk (P : trammellaw1_SourceParts.Pure) (a0 : ByteArray) (a1 : ByteArray) (w : World) (w0 : a0.size ≤ 140737488351232) (w1 : a1.size ≤ 140737488351232) :
    Calls Try.prog 4 #[.string a0, .string a1] w fun e w' => e = .returned (.bool true) ∧ Below w.heap.size w w' := by
  obtain ⟨k, h⟩ := P a0 a1 w0 w1
  refine (trammellaw1_SourceParts.calls k a0 a1 true w h).mono ?_
  rintro e w' ⟨rfl, hd⟩
  exact ⟨rfl, hd.below⟩

end Go.Proofs.Ytppajbkfkhehdaa.PSourceParts
