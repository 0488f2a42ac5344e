-- PRINTED BY print.sh 35421559b90ae4d0a3588c463048766b98c2df88dd9212a6774a882060cdf62d: not written by this session
import Derived.Test.YtppajbkfkhehdaaPSourceSignsx0
import Derived.Test.YtppajbkfkhehdaaPSourceSignsx1
namespace Go.Proofs.Ytppajbkfkhehdaa.PSourceSigns
open Go.RowKit Go.Proofs.YtppajbkfkhehdaaW.PrintWords Go.Proofs.YtppajbkfkhehdaaW.PrintLast Go.Proofs.YtppajbkfkhehdaaW.PrintMore
attribute [local go_sem] max2_int min2_int max_two min_two max_three min_three max_four min_four   -- for this text's walks alone
set_option linter.unusedVariables false
set_option linter.unusedSimpArgs false

/-! ### trammellaw1_awake: function 13 -/
def trammellaw1_awake.f (k : Nat)  : Option (Bool) := (source_Valid.f k (⟨#[97, 195, 169, 226, 130, 172, 240, 159, 152, 128]⟩ : ByteArray)).bind fun bt109 => ((source_Valid.f k (⟨#[97, 98, 237, 160, 128]⟩ : ByteArray)).bind fun bt111 => ((source_Valid.f k (⟨#[120, 195]⟩ : ByteArray)).bind fun bt113 => ((source_Width.f k (⟨#[226, 130, 172]⟩ : ByteArray) 0).bind fun bt115 => ((source_Width.f k (⟨#[226, 130, 172]⟩ : ByteArray) 1).bind fun bt117 => ((source_Width.f k (⟨#[97]⟩ : ByteArray) 1).bind fun bt119 => (if bt109.1 = 0 then (if bt109.2 = true then (if bt111.1 = 2 then (if bt111.2 = true then (some false) else (if bt113.1 = 1 then (if bt113.2 = true then (some false) else (if bt115.1 = 3 then ((trammellaw0_Num.f bt115.2).bind fun t121 => (if t121 = 0 then ((trammellaw0_Num.f bt117.2).bind fun t122 => (if t122 = 100 then ((trammellaw0_Num.f bt119.2).bind fun t123 => (some (t123 == 100))) else (some false))) else (some false))) else (some false))) else (some false))) else (some false)) else (some false)) else (some false)))))))
theorem trammellaw1_awake.mono : ∀ k, LeO (trammellaw1_awake.f k ) (trammellaw1_awake.f (k + 1) ) := by
  intro  k
  unfold trammellaw1_awake.f
  repeat' first
      | (with_reducible exact source_Valid.mono _ _)
      | (with_reducible exact source_Width.mono _ _ _)
      | (with_reducible exact LeO.refl _)
      | (with_reducible exact LeO.none _)
      | (with_reducible refine LeO.ite ?_ ?_)
      | (with_reducible refine LeO.bind ?_ (fun _ => ?_))
      | exact source_Valid.mono _ _
      | exact source_Width.mono _ _ _
      | exact LeO.none _
      | refine LeO.ite ?_ ?_
      | refine LeO.bind ?_ (fun _ => ?_)
set_option maxHeartbeats 8000000 in
set_option maxRecDepth 100000 in
theorem trammellaw1_awake.calls (k : Nat)  (r : Bool) (w : World) (h : trammellaw1_awake.f k  = some r) :
    Calls Try.prog 13 #[] w fun e w' => e = .returned (.bool r) ∧ Drawn0 w w' := by
  have H : ((source_Valid.f k (⟨#[97, 195, 169, 226, 130, 172, 240, 159, 152, 128]⟩ : ByteArray)).bind fun bt109 => ((source_Valid.f k (⟨#[97, 98, 237, 160, 128]⟩ : ByteArray)).bind fun bt111 => ((source_Valid.f k (⟨#[120, 195]⟩ : ByteArray)).bind fun bt113 => ((source_Width.f k (⟨#[226, 130, 172]⟩ : ByteArray) 0).bind fun bt115 => ((source_Width.f k (⟨#[226, 130, 172]⟩ : ByteArray) 1).bind fun bt117 => ((source_Width.f k (⟨#[97]⟩ : ByteArray) 1).bind fun bt119 => (if bt109.1 = 0 then (if bt109.2 = true then (if bt111.1 = 2 then (if bt111.2 = true then (some false) else (if bt113.1 = 1 then (if bt113.2 = true then (some false) else (if bt115.1 = 3 then ((trammellaw0_Num.f bt115.2).bind fun t121 => (if t121 = 0 then ((trammellaw0_Num.f bt117.2).bind fun t122 => (if t122 = 100 then ((trammellaw0_Num.f bt119.2).bind fun t123 => (some (t123 == 100))) else (some false))) else (some false))) else (some false))) else (some false))) else (some false)) else (some false)) else (some false)))))))) = some r := h
  clear h
  replace H := Option.bind_eq_some_iff.mp H
  obtain ⟨⟨t109, t110⟩, A10, H⟩ := H
  replace H : ((source_Valid.f k (⟨#[97, 98, 237, 160, 128]⟩ : ByteArray)).bind fun bt111 => ((source_Valid.f k (⟨#[120, 195]⟩ : ByteArray)).bind fun bt113 => ((source_Width.f k (⟨#[226, 130, 172]⟩ : ByteArray) 0).bind fun bt115 => ((source_Width.f k (⟨#[226, 130, 172]⟩ : ByteArray) 1).bind fun bt117 => ((source_Width.f k (⟨#[97]⟩ : ByteArray) 1).bind fun bt119 => (if t109 = 0 then (if t110 = true then (if bt111.1 = 2 then (if bt111.2 = true then (some false) else (if bt113.1 = 1 then (if bt113.2 = true then (some false) else (if bt115.1 = 3 then ((trammellaw0_Num.f bt115.2).bind fun t121 => (if t121 = 0 then ((trammellaw0_Num.f bt117.2).bind fun t122 => (if t122 = 100 then ((trammellaw0_Num.f bt119.2).bind fun t123 => (some (t123 == 100))) else (some false))) else (some false))) else (some false))) else (some false))) else (some false)) else (some false)) else (some false))))))) = some r := H
  have A1 := Aside0.mk A10
  clear A10
  replace H := Option.bind_eq_some_iff.mp H
  obtain ⟨⟨t111, t112⟩, A20, H⟩ := H
  replace H : ((source_Valid.f k (⟨#[120, 195]⟩ : ByteArray)).bind fun bt113 => ((source_Width.f k (⟨#[226, 130, 172]⟩ : ByteArray) 0).bind fun bt115 => ((source_Width.f k (⟨#[226, 130, 172]⟩ : ByteArray) 1).bind fun bt117 => ((source_Width.f k (⟨#[97]⟩ : ByteArray) 1).bind fun bt119 => (if t109 = 0 then (if t110 = true then (if t111 = 2 then (if t112 = true then (some false) else (if bt113.1 = 1 then (if bt113.2 = true then (some false) else (if bt115.1 = 3 then ((trammellaw0_Num.f bt115.2).bind fun t121 => (if t121 = 0 then ((trammellaw0_Num.f bt117.2).bind fun t122 => (if t122 = 100 then ((trammellaw0_Num.f bt119.2).bind fun t123 => (some (t123 == 100))) else (some false))) else (some false))) else (some false))) else (some false))) else (some false)) else (some false)) else (some false)))))) = some r := H
  have A2 := Aside0.mk A20
  clear A20
  replace H := Option.bind_eq_some_iff.mp H
  obtain ⟨⟨t113, t114⟩, A30, H⟩ := H
  replace H : ((source_Width.f k (⟨#[226, 130, 172]⟩ : ByteArray) 0).bind fun bt115 => ((source_Width.f k (⟨#[226, 130, 172]⟩ : ByteArray) 1).bind fun bt117 => ((source_Width.f k (⟨#[97]⟩ : ByteArray) 1).bind fun bt119 => (if t109 = 0 then (if t110 = true then (if t111 = 2 then (if t112 = true then (some false) else (if t113 = 1 then (if t114 = true then (some false) else (if bt115.1 = 3 then ((trammellaw0_Num.f bt115.2).bind fun t121 => (if t121 = 0 then ((trammellaw0_Num.f bt117.2).bind fun t122 => (if t122 = 100 then ((trammellaw0_Num.f bt119.2).bind fun t123 => (some (t123 == 100))) else (some false))) else (some false))) else (some false))) else (some false))) else (some false)) else (some false)) else (some false))))) = some r := H
  have A3 := Aside0.mk A30
  clear A30
  replace H := Option.bind_eq_some_iff.mp H
  obtain ⟨⟨t115, t116⟩, A40, H⟩ := H
  replace H : ((source_Width.f k (⟨#[226, 130, 172]⟩ : ByteArray) 1).bind fun bt117 => ((source_Width.f k (⟨#[97]⟩ : ByteArray) 1).bind fun bt119 => (if t109 = 0 then (if t110 = true then (if t111 = 2 then (if t112 = true then (some false) else (if t113 = 1 then (if t114 = true then (some false) else (if t115 = 3 then ((trammellaw0_Num.f t116).bind fun t121 => (if t121 = 0 then ((trammellaw0_Num.f bt117.2).bind fun t122 => (if t122 = 100 then ((trammellaw0_Num.f bt119.2).bind fun t123 => (some (t123 == 100))) else (some false))) else (some false))) else (some false))) else (some false))) else (some false)) else (some false)) else (some false)))) = some r := H
  have A4 := Aside0.mk A40
  clear A40
  replace H := Option.bind_eq_some_iff.mp H
  obtain ⟨⟨t117, t118⟩, A50, H⟩ := H
  replace H : ((source_Width.f k (⟨#[97]⟩ : ByteArray) 1).bind fun bt119 => (if t109 = 0 then (if t110 = true then (if t111 = 2 then (if t112 = true then (some false) else (if t113 = 1 then (if t114 = true then (some false) else (if t115 = 3 then ((trammellaw0_Num.f t116).bind fun t121 => (if t121 = 0 then ((trammellaw0_Num.f t118).bind fun t122 => (if t122 = 100 then ((trammellaw0_Num.f bt119.2).bind fun t123 => (some (t123 == 100))) else (some false))) else (some false))) else (some false))) else (some false))) else (some false)) else (some false)) else (some false))) = some r := H
  have A5 := Aside0.mk A50
  clear A50
  replace H := Option.bind_eq_some_iff.mp H
  obtain ⟨⟨t119, t120⟩, A60, H⟩ := H
  replace H : (if t109 = 0 then (if t110 = true then (if t111 = 2 then (if t112 = true then (some false) else (if t113 = 1 then (if t114 = true then (some false) else (if t115 = 3 then ((trammellaw0_Num.f t116).bind fun t121 => (if t121 = 0 then ((trammellaw0_Num.f t118).bind fun t122 => (if t122 = 100 then ((trammellaw0_Num.f t120).bind fun t123 => (some (t123 == 100))) else (some false))) else (some false))) else (some false))) else (some false))) else (some false)) else (some false)) else (some false)) = some r := H
  have A6 := Aside0.mk A60
  clear A60
  by_cases c7 : t109 = 0
  · rw [if_pos c7] at H
    have c7b0 : (t109 == 0) = true := beq_iff_eq.mpr c7
    have c7b1 : (t109 != 0) = false := bne_eq_false_iff_eq.mpr c7
    clear c7
    by_cases c8 : t110 = true
    · subst c8
      have H1 : (if t111 = 2 then (if t112 = true then (some false) else (if t113 = 1 then (if t114 = true then (some false) else (if t115 = 3 then ((trammellaw0_Num.f t116).bind fun t121 => (if t121 = 0 then ((trammellaw0_Num.f t118).bind fun t122 => (if t122 = 100 then ((trammellaw0_Num.f t120).bind fun t123 => (some (t123 == 100))) else (some false))) else (some false))) else (some false))) else (some false))) else (some false)) = some r := by rw [if_pos rfl] at H; exact H
      clear H
      have H := H1
      clear H1
      by_cases c9 : t111 = 2
      · rw [if_pos c9] at H
        have c9b0 : (t111 == 2) = true := beq_iff_eq.mpr c9
        have c9b1 : (t111 != 2) = false := bne_eq_false_iff_eq.mpr c9
        clear c9
        by_cases c10 : t112 = true
        · subst c10
          have H1 : (some false) = some r := by rw [if_pos rfl] at H; exact H
          clear H
          have H := H1
          clear H1
          obtain rfl := Option.some.inj H
          go_enter Try.func13, Try.ntmps13
          go_wp2_with (first | ((with_reducible refine gate_callee (f := 8) rfl ?_); refine goesL_ (some 14) rfl rfl Try.func8 (by kernel_rfl) rfl #[.string (⟨#[97, 195, 169, 226, 130, 172, 240, 159, 152, 128]⟩ : ByteArray)] rfl (by (try simp only [List.map_toArray, List.map_cons, List.map_nil]); first | done | rfl | (simp only [List.length_drop, List.length_take]; rfl)) ?_; (with_reducible refine (source_Valid.calls k (⟨#[97, 195, 169, 226, 130, 172, 240, 159, 152, 128]⟩ : ByteArray) t109 true _ A1.out).mono ?_); rintro e w' ⟨rfl, ⟨nd, rfl⟩⟩; refine ⟨_, rfl, ?_⟩) | ((with_reducible refine gate_callee (f := 8) rfl ?_); refine goesL_ (some 18) rfl rfl Try.func8 (by kernel_rfl) rfl #[.string (⟨#[97, 98, 237, 160, 128]⟩ : ByteArray)] rfl (by (try simp only [List.map_toArray, List.map_cons, List.map_nil]); first | done | rfl | (simp only [List.length_drop, List.length_take]; rfl)) ?_; (with_reducible refine (source_Valid.calls k (⟨#[97, 98, 237, 160, 128]⟩ : ByteArray) t111 true _ A2.out).mono ?_); rintro e w' ⟨rfl, ⟨nd, rfl⟩⟩; refine ⟨_, rfl, ?_⟩) | ((with_reducible refine gate_callee (f := 8) rfl ?_); refine goesL_ (some 22) rfl rfl Try.func8 (by kernel_rfl) rfl #[.string (⟨#[120, 195]⟩ : ByteArray)] rfl (by (try simp only [List.map_toArray, List.map_cons, List.map_nil]); first | done | rfl | (simp only [List.length_drop, List.length_take]; rfl)) ?_; (with_reducible refine (source_Valid.calls k (⟨#[120, 195]⟩ : ByteArray) t113 t114 _ A3.out).mono ?_); rintro e w' ⟨rfl, ⟨nd, rfl⟩⟩; refine ⟨_, rfl, ?_⟩) | ((with_reducible refine gate_callee (f := 10) rfl ?_); refine goesL_ (some 26) rfl rfl Try.func10 (by kernel_rfl) rfl #[.string (⟨#[226, 130, 172]⟩ : ByteArray), .int .i64 0] rfl (by (try simp only [List.map_toArray, List.map_cons, List.map_nil]); first | done | rfl | (simp only [List.length_drop, List.length_take]; rfl)) ?_; (with_reducible refine (source_Width.calls k (⟨#[226, 130, 172]⟩ : ByteArray) 0 t115 t116 _ A4.out).mono ?_); rintro e w' ⟨rfl, ⟨nd, rfl⟩⟩; refine ⟨_, rfl, ?_⟩) | ((with_reducible refine gate_callee (f := 10) rfl ?_); refine goesL_ (some 30) rfl rfl Try.func10 (by kernel_rfl) rfl #[.string (⟨#[226, 130, 172]⟩ : ByteArray), .int .i64 1] rfl (by (try simp only [List.map_toArray, List.map_cons, List.map_nil]); first | done | rfl | (simp only [List.length_drop, List.length_take]; rfl)) ?_; (with_reducible refine (source_Width.calls k (⟨#[226, 130, 172]⟩ : ByteArray) 1 t117 t118 _ A5.out).mono ?_); rintro e w' ⟨rfl, ⟨nd, rfl⟩⟩; refine ⟨_, rfl, ?_⟩) | ((with_reducible refine gate_callee (f := 10) rfl ?_); refine goesL_ (some 34) rfl rfl Try.func10 (by kernel_rfl) rfl #[.string (⟨#[97]⟩ : ByteArray), .int .i64 1] rfl (by (try simp only [List.map_toArray, List.map_cons, List.map_nil]); first | done | rfl | (simp only [List.length_drop, List.length_take]; rfl)) ?_; (with_reducible refine (source_Width.calls k (⟨#[97]⟩ : ByteArray) 1 t119 t120 _ A6.out).mono ?_); rintro e w' ⟨rfl, ⟨nd, rfl⟩⟩; refine ⟨_, rfl, ?_⟩))
          go_ret
          exact ⟨by first | rfl | (simp; done) | (simp [*]; done), by repeat (first | exact Drawn0.refl _ | apply Drawn0.step)⟩
        · replace c10 := Bool.eq_false_iff.mpr c10
          subst c10
          have H1 : (if t113 = 1 then (if t114 = true then (some false) else (if t115 = 3 then ((trammellaw0_Num.f t116).bind fun t121 => (if t121 = 0 then ((trammellaw0_Num.f t118).bind fun t122 => (if t122 = 100 then ((trammellaw0_Num.f t120).bind fun t123 => (some (t123 == 100))) else (some false))) else (some false))) else (some false))) else (some false)) = some r := by rw [if_neg (show ¬ (false = true) by decide)] at H; exact H
          clear H
          have H := H1
          clear H1
          by_cases c11 : t113 = 1
          · rw [if_pos c11] at H
            have c11b0 : (t113 == 1) = true := beq_iff_eq.mpr c11
            have c11b1 : (t113 != 1) = false := bne_eq_false_iff_eq.mpr c11
            clear c11
            by_cases c12 : t114 = true
            · subst c12
              have H1 : (some false) = some r := by rw [if_pos rfl] at H; exact H
              clear H
              have H := H1
              clear H1
              obtain rfl := Option.some.inj H
              go_enter Try.func13, Try.ntmps13
              go_wp2_with (first | ((with_reducible refine gate_callee (f := 8) rfl ?_); refine goesL_ (some 14) rfl rfl Try.func8 (by kernel_rfl) rfl #[.string (⟨#[97, 195, 169, 226, 130, 172, 240, 159, 152, 128]⟩ : ByteArray)] rfl (by (try simp only [List.map_toArray, List.map_cons, List.map_nil]); first | done | rfl | (simp only [List.length_drop, List.length_take]; rfl)) ?_; (with_reducible refine (source_Valid.calls k (⟨#[97, 195, 169, 226, 130, 172, 240, 159, 152, 128]⟩ : ByteArray) t109 true _ A1.out).mono ?_); rintro e w' ⟨rfl, ⟨nd, rfl⟩⟩; refine ⟨_, rfl, ?_⟩) | ((with_reducible refine gate_callee (f := 8) rfl ?_); refine goesL_ (some 18) rfl rfl Try.func8 (by kernel_rfl) rfl #[.string (⟨#[97, 98, 237, 160, 128]⟩ : ByteArray)] rfl (by (try simp only [List.map_toArray, List.map_cons, List.map_nil]); first | done | rfl | (simp only [List.length_drop, List.length_take]; rfl)) ?_; (with_reducible refine (source_Valid.calls k (⟨#[97, 98, 237, 160, 128]⟩ : ByteArray) t111 false _ A2.out).mono ?_); rintro e w' ⟨rfl, ⟨nd, rfl⟩⟩; refine ⟨_, rfl, ?_⟩) | ((with_reducible refine gate_callee (f := 8) rfl ?_); refine goesL_ (some 22) rfl rfl Try.func8 (by kernel_rfl) rfl #[.string (⟨#[120, 195]⟩ : ByteArray)] rfl (by (try simp only [List.map_toArray, List.map_cons, List.map_nil]); first | done | rfl | (simp only [List.length_drop, List.length_take]; rfl)) ?_; (with_reducible refine (source_Valid.calls k (⟨#[120, 195]⟩ : ByteArray) t113 true _ A3.out).mono ?_); rintro e w' ⟨rfl, ⟨nd, rfl⟩⟩; refine ⟨_, rfl, ?_⟩) | ((with_reducible refine gate_callee (f := 10) rfl ?_); refine goesL_ (some 26) rfl rfl Try.func10 (by kernel_rfl) rfl #[.string (⟨#[226, 130, 172]⟩ : ByteArray), .int .i64 0] rfl (by (try simp only [List.map_toArray, List.map_cons, List.map_nil]); first | done | rfl | (simp only [List.length_drop, List.length_take]; rfl)) ?_; (with_reducible refine (source_Width.calls k (⟨#[226, 130, 172]⟩ : ByteArray) 0 t115 t116 _ A4.out).mono ?_); rintro e w' ⟨rfl, ⟨nd, rfl⟩⟩; refine ⟨_, rfl, ?_⟩) | ((with_reducible refine gate_callee (f := 10) rfl ?_); refine goesL_ (some 30) rfl rfl Try.func10 (by kernel_rfl) rfl #[.string (⟨#[226, 130, 172]⟩ : ByteArray), .int .i64 1] rfl (by (try simp only [List.map_toArray, List.map_cons, List.map_nil]); first | done | rfl | (simp only [List.length_drop, List.length_take]; rfl)) ?_; (with_reducible refine (source_Width.calls k (⟨#[226, 130, 172]⟩ : ByteArray) 1 t117 t118 _ A5.out).mono ?_); rintro e w' ⟨rfl, ⟨nd, rfl⟩⟩; refine ⟨_, rfl, ?_⟩) | ((with_reducible refine gate_callee (f := 10) rfl ?_); refine goesL_ (some 34) rfl rfl Try.func10 (by kernel_rfl) rfl #[.string (⟨#[97]⟩ : ByteArray), .int .i64 1] rfl (by (try simp only [List.map_toArray, List.map_cons, List.map_nil]); first | done | rfl | (simp only [List.length_drop, List.length_take]; rfl)) ?_; (with_reducible refine (source_Width.calls k (⟨#[97]⟩ : ByteArray) 1 t119 t120 _ A6.out).mono ?_); rintro e w' ⟨rfl, ⟨nd, rfl⟩⟩; refine ⟨_, rfl, ?_⟩))
              go_ret
              exact ⟨by first | rfl | (simp; done) | (simp [*]; done), by repeat (first | exact Drawn0.refl _ | apply Drawn0.step)⟩
            · replace c12 := Bool.eq_false_iff.mpr c12
              subst c12
              have H1 : (if t115 = 3 then ((trammellaw0_Num.f t116).bind fun t121 => (if t121 = 0 then ((trammellaw0_Num.f t118).bind fun t122 => (if t122 = 100 then ((trammellaw0_Num.f t120).bind fun t123 => (some (t123 == 100))) else (some false))) else (some false))) else (some false)) = some r := by rw [if_neg (show ¬ (false = true) by decide)] at H; exact H
              clear H
              have H := H1
              clear H1
              by_cases c13 : t115 = 3
              · rw [if_pos c13] at H
                have c13b0 : (t115 == 3) = true := beq_iff_eq.mpr c13
                have c13b1 : (t115 != 3) = false := bne_eq_false_iff_eq.mpr c13
                clear c13
                replace H := Option.bind_eq_some_iff.mp H
                obtain ⟨t121, A140, H⟩ := H
                replace H : (if t121 = 0 then ((trammellaw0_Num.f t118).bind fun t122 => (if t122 = 100 then ((trammellaw0_Num.f t120).bind fun t123 => (some (t123 == 100))) else (some false))) else (some false)) = some r := H
                have A14 := Aside0.mk A140
                clear A140
                by_cases c15 : t121 = 0
                · rw [if_pos c15] at H
                  have c15b0 : (t121 == 0) = true := beq_iff_eq.mpr c15
                  have c15b1 : (t121 != 0) = false := bne_eq_false_iff_eq.mpr c15
                  clear c15
                  replace H := Option.bind_eq_some_iff.mp H
                  obtain ⟨t122, A160, H⟩ := H
                  replace H : (if t122 = 100 then ((trammellaw0_Num.f t120).bind fun t123 => (some (t123 == 100))) else (some false)) = some r := H
                  have A16 := Aside0.mk A160
                  clear A160
                  by_cases c17 : t122 = 100
                  · rw [if_pos c17] at H
                    have c17b0 : (t122 == 100) = true := beq_iff_eq.mpr c17
                    have c17b1 : (t122 != 100) = false := bne_eq_false_iff_eq.mpr c17
                    clear c17
                    replace H := Option.bind_eq_some_iff.mp H
                    obtain ⟨t123, A180, H⟩ := H
                    replace H : (some (t123 == 100)) = some r := H
                    have A18 := Aside0.mk A180
                    clear A180
                    obtain rfl := Option.some.inj H
                    go_enter Try.func13, Try.ntmps13
                    go_wp2_with (first | ((with_reducible refine gate_callee (f := 8) rfl ?_); refine goesL_ (some 14) rfl rfl Try.func8 (by kernel_rfl) rfl #[.string (⟨#[97, 195, 169, 226, 130, 172, 240, 159, 152, 128]⟩ : ByteArray)] rfl (by (try simp only [List.map_toArray, List.map_cons, List.map_nil]); first | done | rfl | (simp only [List.length_drop, List.length_take]; rfl)) ?_; (with_reducible refine (source_Valid.calls k (⟨#[97, 195, 169, 226, 130, 172, 240, 159, 152, 128]⟩ : ByteArray) t109 true _ A1.out).mono ?_); rintro e w' ⟨rfl, ⟨nd, rfl⟩⟩; refine ⟨_, rfl, ?_⟩) | ((with_reducible refine gate_callee (f := 8) rfl ?_); refine goesL_ (some 18) rfl rfl Try.func8 (by kernel_rfl) rfl #[.string (⟨#[97, 98, 237, 160, 128]⟩ : ByteArray)] rfl (by (try simp only [List.map_toArray, List.map_cons, List.map_nil]); first | done | rfl | (simp only [List.length_drop, List.length_take]; rfl)) ?_; (with_reducible refine (source_Valid.calls k (⟨#[97, 98, 237, 160, 128]⟩ : ByteArray) t111 false _ A2.out).mono ?_); rintro e w' ⟨rfl, ⟨nd, rfl⟩⟩; refine ⟨_, rfl, ?_⟩) | ((with_reducible refine gate_callee (f := 8) rfl ?_); refine goesL_ (some 22) rfl rfl Try.func8 (by kernel_rfl) rfl #[.string (⟨#[120, 195]⟩ : ByteArray)] rfl (by (try simp only [List.map_toArray, List.map_cons, List.map_nil]); first | done | rfl | (simp only [List.length_drop, List.length_take]; rfl)) ?_; (with_reducible refine (source_Valid.calls k (⟨#[120, 195]⟩ : ByteArray) t113 false _ A3.out).mono ?_); rintro e w' ⟨rfl, ⟨nd, rfl⟩⟩; refine ⟨_, rfl, ?_⟩) | ((with_reducible refine gate_callee (f := 10) rfl ?_); refine goesL_ (some 26) rfl rfl Try.func10 (by kernel_rfl) rfl #[.string (⟨#[226, 130, 172]⟩ : ByteArray), .int .i64 0] rfl (by (try simp only [List.map_toArray, List.map_cons, List.map_nil]); first | done | rfl | (simp only [List.length_drop, List.length_take]; rfl)) ?_; (with_reducible refine (source_Width.calls k (⟨#[226, 130, 172]⟩ : ByteArray) 0 t115 t116 _ A4.out).mono ?_); rintro e w' ⟨rfl, ⟨nd, rfl⟩⟩; refine ⟨_, rfl, ?_⟩) | ((with_reducible refine gate_callee (f := 10) rfl ?_); refine goesL_ (some 30) rfl rfl Try.func10 (by kernel_rfl) rfl #[.string (⟨#[226, 130, 172]⟩ : ByteArray), .int .i64 1] rfl (by (try simp only [List.map_toArray, List.map_cons, List.map_nil]); first | done | rfl | (simp only [List.length_drop, List.length_take]; rfl)) ?_; (with_reducible refine (source_Width.calls k (⟨#[226, 130, 172]⟩ : ByteArray) 1 t117 t118 _ A5.out).mono ?_); rintro e w' ⟨rfl, ⟨nd, rfl⟩⟩; refine ⟨_, rfl, ?_⟩) | ((with_reducible refine gate_callee (f := 10) rfl ?_); refine goesL_ (some 34) rfl rfl Try.func10 (by kernel_rfl) rfl #[.string (⟨#[97]⟩ : ByteArray), .int .i64 1] rfl (by (try simp only [List.map_toArray, List.map_cons, List.map_nil]); first | done | rfl | (simp only [List.length_drop, List.length_take]; rfl)) ?_; (with_reducible refine (source_Width.calls k (⟨#[97]⟩ : ByteArray) 1 t119 t120 _ A6.out).mono ?_); rintro e w' ⟨rfl, ⟨nd, rfl⟩⟩; refine ⟨_, rfl, ?_⟩) | (go_at_call 12; (with_reducible refine (trammellaw0_Num.calls t116 t121 _ A14.out).mono ?_); rintro e w' ⟨rfl, ⟨nd, rfl⟩⟩) | (go_at_call 12; (with_reducible refine (trammellaw0_Num.calls t118 t122 _ A16.out).mono ?_); rintro e w' ⟨rfl, ⟨nd, rfl⟩⟩) | (go_at_call 12; (with_reducible refine (trammellaw0_Num.calls t120 t123 _ A18.out).mono ?_); rintro e w' ⟨rfl, ⟨nd, rfl⟩⟩))
                    go_ret
                    exact ⟨by first | rfl | (simp; done) | (simp [*]; done), by repeat (first | exact Drawn0.refl _ | apply Drawn0.step)⟩
                  · rw [if_neg c17] at H
                    have c17b0 : (t122 == 100) = false := beq_eq_false_iff_ne.mpr c17
                    have c17b1 : (t122 != 100) = true := bne_iff_ne.mpr c17
                    obtain rfl := Option.some.inj H
                    go_enter Try.func13, Try.ntmps13
                    go_wp2_with (first | ((with_reducible refine gate_callee (f := 8) rfl ?_); refine goesL_ (some 14) rfl rfl Try.func8 (by kernel_rfl) rfl #[.string (⟨#[97, 195, 169, 226, 130, 172, 240, 159, 152, 128]⟩ : ByteArray)] rfl (by (try simp only [List.map_toArray, List.map_cons, List.map_nil]); first | done | rfl | (simp only [List.length_drop, List.length_take]; rfl)) ?_; (with_reducible refine (source_Valid.calls k (⟨#[97, 195, 169, 226, 130, 172, 240, 159, 152, 128]⟩ : ByteArray) t109 true _ A1.out).mono ?_); rintro e w' ⟨rfl, ⟨nd, rfl⟩⟩; refine ⟨_, rfl, ?_⟩) | ((with_reducible refine gate_callee (f := 8) rfl ?_); refine goesL_ (some 18) rfl rfl Try.func8 (by kernel_rfl) rfl #[.string (⟨#[97, 98, 237, 160, 128]⟩ : ByteArray)] rfl (by (try simp only [List.map_toArray, List.map_cons, List.map_nil]); first | done | rfl | (simp only [List.length_drop, List.length_take]; rfl)) ?_; (with_reducible refine (source_Valid.calls k (⟨#[97, 98, 237, 160, 128]⟩ : ByteArray) t111 false _ A2.out).mono ?_); rintro e w' ⟨rfl, ⟨nd, rfl⟩⟩; refine ⟨_, rfl, ?_⟩) | ((with_reducible refine gate_callee (f := 8) rfl ?_); refine goesL_ (some 22) rfl rfl Try.func8 (by kernel_rfl) rfl #[.string (⟨#[120, 195]⟩ : ByteArray)] rfl (by (try simp only [List.map_toArray, List.map_cons, List.map_nil]); first | done | rfl | (simp only [List.length_drop, List.length_take]; rfl)) ?_; (with_reducible refine (source_Valid.calls k (⟨#[120, 195]⟩ : ByteArray) t113 false _ A3.out).mono ?_); rintro e w' ⟨rfl, ⟨nd, rfl⟩⟩; refine ⟨_, rfl, ?_⟩) | ((with_reducible refine gate_callee (f := 10) rfl ?_); refine goesL_ (some 26) rfl rfl Try.func10 (by kernel_rfl) rfl #[.string (⟨#[226, 130, 172]⟩ : ByteArray), .int .i64 0] rfl (by (try simp only [List.map_toArray, List.map_cons, List.map_nil]); first | done | rfl | (simp only [List.length_drop, List.length_take]; rfl)) ?_; (with_reducible refine (source_Width.calls k (⟨#[226, 130, 172]⟩ : ByteArray) 0 t115 t116 _ A4.out).mono ?_); rintro e w' ⟨rfl, ⟨nd, rfl⟩⟩; refine ⟨_, rfl, ?_⟩) | ((with_reducible refine gate_callee (f := 10) rfl ?_); refine goesL_ (some 30) rfl rfl Try.func10 (by kernel_rfl) rfl #[.string (⟨#[226, 130, 172]⟩ : ByteArray), .int .i64 1] rfl (by (try simp only [List.map_toArray, List.map_cons, List.map_nil]); first | done | rfl | (simp only [List.length_drop, List.length_take]; rfl)) ?_; (with_reducible refine (source_Width.calls k (⟨#[226, 130, 172]⟩ : ByteArray) 1 t117 t118 _ A5.out).mono ?_); rintro e w' ⟨rfl, ⟨nd, rfl⟩⟩; refine ⟨_, rfl, ?_⟩) | ((with_reducible refine gate_callee (f := 10) rfl ?_); refine goesL_ (some 34) rfl rfl Try.func10 (by kernel_rfl) rfl #[.string (⟨#[97]⟩ : ByteArray), .int .i64 1] rfl (by (try simp only [List.map_toArray, List.map_cons, List.map_nil]); first | done | rfl | (simp only [List.length_drop, List.length_take]; rfl)) ?_; (with_reducible refine (source_Width.calls k (⟨#[97]⟩ : ByteArray) 1 t119 t120 _ A6.out).mono ?_); rintro e w' ⟨rfl, ⟨nd, rfl⟩⟩; refine ⟨_, rfl, ?_⟩) | (go_at_call 12; (with_reducible refine (trammellaw0_Num.calls t116 t121 _ A14.out).mono ?_); rintro e w' ⟨rfl, ⟨nd, rfl⟩⟩) | (go_at_call 12; (with_reducible refine (trammellaw0_Num.calls t118 t122 _ A16.out).mono ?_); rintro e w' ⟨rfl, ⟨nd, rfl⟩⟩))
                    go_ret
                    exact ⟨by first | rfl | (simp; done) | (simp [*]; done), by repeat (first | exact Drawn0.refl _ | apply Drawn0.step)⟩
                · rw [if_neg c15] at H
                  have c15b0 : (t121 == 0) = false := beq_eq_false_iff_ne.mpr c15
                  have c15b1 : (t121 != 0) = true := bne_iff_ne.mpr c15
                  obtain rfl := Option.some.inj H
                  go_enter Try.func13, Try.ntmps13
                  go_wp2_with (first | ((with_reducible refine gate_callee (f := 8) rfl ?_); refine goesL_ (some 14) rfl rfl Try.func8 (by kernel_rfl) rfl #[.string (⟨#[97, 195, 169, 226, 130, 172, 240, 159, 152, 128]⟩ : ByteArray)] rfl (by (try simp only [List.map_toArray, List.map_cons, List.map_nil]); first | done | rfl | (simp only [List.length_drop, List.length_take]; rfl)) ?_; (with_reducible refine (source_Valid.calls k (⟨#[97, 195, 169, 226, 130, 172, 240, 159, 152, 128]⟩ : ByteArray) t109 true _ A1.out).mono ?_); rintro e w' ⟨rfl, ⟨nd, rfl⟩⟩; refine ⟨_, rfl, ?_⟩) | ((with_reducible refine gate_callee (f := 8) rfl ?_); refine goesL_ (some 18) rfl rfl Try.func8 (by kernel_rfl) rfl #[.string (⟨#[97, 98, 237, 160, 128]⟩ : ByteArray)] rfl (by (try simp only [List.map_toArray, List.map_cons, List.map_nil]); first | done | rfl | (simp only [List.length_drop, List.length_take]; rfl)) ?_; (with_reducible refine (source_Valid.calls k (⟨#[97, 98, 237, 160, 128]⟩ : ByteArray) t111 false _ A2.out).mono ?_); rintro e w' ⟨rfl, ⟨nd, rfl⟩⟩; refine ⟨_, rfl, ?_⟩) | ((with_reducible refine gate_callee (f := 8) rfl ?_); refine goesL_ (some 22) rfl rfl Try.func8 (by kernel_rfl) rfl #[.string (⟨#[120, 195]⟩ : ByteArray)] rfl (by (try simp only [List.map_toArray, List.map_cons, List.map_nil]); first | done | rfl | (simp only [List.length_drop, List.length_take]; rfl)) ?_; (with_reducible refine (source_Valid.calls k (⟨#[120, 195]⟩ : ByteArray) t113 false _ A3.out).mono ?_); rintro e w' ⟨rfl, ⟨nd, rfl⟩⟩; refine ⟨_, rfl, ?_⟩) | ((with_reducible refine gate_callee (f := 10) rfl ?_); refine goesL_ (some 26) rfl rfl Try.func10 (by kernel_rfl) rfl #[.string (⟨#[226, 130, 172]⟩ : ByteArray), .int .i64 0] rfl (by (try simp only [List.map_toArray, List.map_cons, List.map_nil]); first | done | rfl | (simp only [List.length_drop, List.length_take]; rfl)) ?_; (with_reducible refine (source_Width.calls k (⟨#[226, 130, 172]⟩ : ByteArray) 0 t115 t116 _ A4.out).mono ?_); rintro e w' ⟨rfl, ⟨nd, rfl⟩⟩; refine ⟨_, rfl, ?_⟩) | ((with_reducible refine gate_callee (f := 10) rfl ?_); refine goesL_ (some 30) rfl rfl Try.func10 (by kernel_rfl) rfl #[.string (⟨#[226, 130, 172]⟩ : ByteArray), .int .i64 1] rfl (by (try simp only [List.map_toArray, List.map_cons, List.map_nil]); first | done | rfl | (simp only [List.length_drop, List.length_take]; rfl)) ?_; (with_reducible refine (source_Width.calls k (⟨#[226, 130, 172]⟩ : ByteArray) 1 t117 t118 _ A5.out).mono ?_); rintro e w' ⟨rfl, ⟨nd, rfl⟩⟩; refine ⟨_, rfl, ?_⟩) | ((with_reducible refine gate_callee (f := 10) rfl ?_); refine goesL_ (some 34) rfl rfl Try.func10 (by kernel_rfl) rfl #[.string (⟨#[97]⟩ : ByteArray), .int .i64 1] rfl (by (try simp only [List.map_toArray, List.map_cons, List.map_nil]); first | done | rfl | (simp only [List.length_drop, List.length_take]; rfl)) ?_; (with_reducible refine (source_Width.calls k (⟨#[97]⟩ : ByteArray) 1 t119 t120 _ A6.out).mono ?_); rintro e w' ⟨rfl, ⟨nd, rfl⟩⟩; refine ⟨_, rfl, ?_⟩) | (go_at_call 12; (with_reducible refine (trammellaw0_Num.calls t116 t121 _ A14.out).mono ?_); rintro e w' ⟨rfl, ⟨nd, rfl⟩⟩))
                  go_ret
                  exact ⟨by first | rfl | (simp; done) | (simp [*]; done), by repeat (first | exact Drawn0.refl _ | apply Drawn0.step)⟩
              · rw [if_neg c13] at H
                have c13b0 : (t115 == 3) = false := beq_eq_false_iff_ne.mpr c13
                have c13b1 : (t115 != 3) = true := bne_iff_ne.mpr c13
                obtain rfl := Option.some.inj H
                go_enter Try.func13, Try.ntmps13
                go_wp2_with (first | ((with_reducible refine gate_callee (f := 8) rfl ?_); refine goesL_ (some 14) rfl rfl Try.func8 (by kernel_rfl) rfl #[.string (⟨#[97, 195, 169, 226, 130, 172, 240, 159, 152, 128]⟩ : ByteArray)] rfl (by (try simp only [List.map_toArray, List.map_cons, List.map_nil]); first | done | rfl | (simp only [List.length_drop, List.length_take]; rfl)) ?_; (with_reducible refine (source_Valid.calls k (⟨#[97, 195, 169, 226, 130, 172, 240, 159, 152, 128]⟩ : ByteArray) t109 true _ A1.out).mono ?_); rintro e w' ⟨rfl, ⟨nd, rfl⟩⟩; refine ⟨_, rfl, ?_⟩) | ((with_reducible refine gate_callee (f := 8) rfl ?_); refine goesL_ (some 18) rfl rfl Try.func8 (by kernel_rfl) rfl #[.string (⟨#[97, 98, 237, 160, 128]⟩ : ByteArray)] rfl (by (try simp only [List.map_toArray, List.map_cons, List.map_nil]); first | done | rfl | (simp only [List.length_drop, List.length_take]; rfl)) ?_; (with_reducible refine (source_Valid.calls k (⟨#[97, 98, 237, 160, 128]⟩ : ByteArray) t111 false _ A2.out).mono ?_); rintro e w' ⟨rfl, ⟨nd, rfl⟩⟩; refine ⟨_, rfl, ?_⟩) | ((with_reducible refine gate_callee (f := 8) rfl ?_); refine goesL_ (some 22) rfl rfl Try.func8 (by kernel_rfl) rfl #[.string (⟨#[120, 195]⟩ : ByteArray)] rfl (by (try simp only [List.map_toArray, List.map_cons, List.map_nil]); first | done | rfl | (simp only [List.length_drop, List.length_take]; rfl)) ?_; (with_reducible refine (source_Valid.calls k (⟨#[120, 195]⟩ : ByteArray) t113 false _ A3.out).mono ?_); rintro e w' ⟨rfl, ⟨nd, rfl⟩⟩; refine ⟨_, rfl, ?_⟩) | ((with_reducible refine gate_callee (f := 10) rfl ?_); refine goesL_ (some 26) rfl rfl Try.func10 (by kernel_rfl) rfl #[.string (⟨#[226, 130, 172]⟩ : ByteArray), .int .i64 0] rfl (by (try simp only [List.map_toArray, List.map_cons, List.map_nil]); first | done | rfl | (simp only [List.length_drop, List.length_take]; rfl)) ?_; (with_reducible refine (source_Width.calls k (⟨#[226, 130, 172]⟩ : ByteArray) 0 t115 t116 _ A4.out).mono ?_); rintro e w' ⟨rfl, ⟨nd, rfl⟩⟩; refine ⟨_, rfl, ?_⟩) | ((with_reducible refine gate_callee (f := 10) rfl ?_); refine goesL_ (some 30) rfl rfl Try.func10 (by kernel_rfl) rfl #[.string (⟨#[226, 130, 172]⟩ : ByteArray), .int .i64 1] rfl (by (try simp only [List.map_toArray, List.map_cons, List.map_nil]); first | done | rfl | (simp only [List.length_drop, List.length_take]; rfl)) ?_; (with_reducible refine (source_Width.calls k (⟨#[226, 130, 172]⟩ : ByteArray) 1 t117 t118 _ A5.out).mono ?_); rintro e w' ⟨rfl, ⟨nd, rfl⟩⟩; refine ⟨_, rfl, ?_⟩) | ((with_reducible refine gate_callee (f := 10) rfl ?_); refine goesL_ (some 34) rfl rfl Try.func10 (by kernel_rfl) rfl #[.string (⟨#[97]⟩ : ByteArray), .int .i64 1] rfl (by (try simp only [List.map_toArray, List.map_cons, List.map_nil]); first | done | rfl | (simp only [List.length_drop, List.length_take]; rfl)) ?_; (with_reducible refine (source_Width.calls k (⟨#[97]⟩ : ByteArray) 1 t119 t120 _ A6.out).mono ?_); rintro e w' ⟨rfl, ⟨nd, rfl⟩⟩; refine ⟨_, rfl, ?_⟩))
                go_ret
                exact ⟨by first | rfl | (simp; done) | (simp [*]; done), by repeat (first | exact Drawn0.refl _ | apply Drawn0.step)⟩
          · rw [if_neg c11] at H
            have c11b0 : (t113 == 1) = false := beq_eq_false_iff_ne.mpr c11
            have c11b1 : (t113 != 1) = true := bne_iff_ne.mpr c11
            obtain rfl := Option.some.inj H
            go_enter Try.func13, Try.ntmps13
            go_wp2_with (first | ((with_reducible refine gate_callee (f := 8) rfl ?_); refine goesL_ (some 14) rfl rfl Try.func8 (by kernel_rfl) rfl #[.string (⟨#[97, 195, 169, 226, 130, 172, 240, 159, 152, 128]⟩ : ByteArray)] rfl (by (try simp only [List.map_toArray, List.map_cons, List.map_nil]); first | done | rfl | (simp only [List.length_drop, List.length_take]; rfl)) ?_; (with_reducible refine (source_Valid.calls k (⟨#[97, 195, 169, 226, 130, 172, 240, 159, 152, 128]⟩ : ByteArray) t109 true _ A1.out).mono ?_); rintro e w' ⟨rfl, ⟨nd, rfl⟩⟩; refine ⟨_, rfl, ?_⟩) | ((with_reducible refine gate_callee (f := 8) rfl ?_); refine goesL_ (some 18) rfl rfl Try.func8 (by kernel_rfl) rfl #[.string (⟨#[97, 98, 237, 160, 128]⟩ : ByteArray)] rfl (by (try simp only [List.map_toArray, List.map_cons, List.map_nil]); first | done | rfl | (simp only [List.length_drop, List.length_take]; rfl)) ?_; (with_reducible refine (source_Valid.calls k (⟨#[97, 98, 237, 160, 128]⟩ : ByteArray) t111 false _ A2.out).mono ?_); rintro e w' ⟨rfl, ⟨nd, rfl⟩⟩; refine ⟨_, rfl, ?_⟩) | ((with_reducible refine gate_callee (f := 8) rfl ?_); refine goesL_ (some 22) rfl rfl Try.func8 (by kernel_rfl) rfl #[.string (⟨#[120, 195]⟩ : ByteArray)] rfl (by (try simp only [List.map_toArray, List.map_cons, List.map_nil]); first | done | rfl | (simp only [List.length_drop, List.length_take]; rfl)) ?_; (with_reducible refine (source_Valid.calls k (⟨#[120, 195]⟩ : ByteArray) t113 t114 _ A3.out).mono ?_); rintro e w' ⟨rfl, ⟨nd, rfl⟩⟩; refine ⟨_, rfl, ?_⟩) | ((with_reducible refine gate_callee (f := 10) rfl ?_); refine goesL_ (some 26) rfl rfl Try.func10 (by kernel_rfl) rfl #[.string (⟨#[226, 130, 172]⟩ : ByteArray), .int .i64 0] rfl (by (try simp only [List.map_toArray, List.map_cons, List.map_nil]); first | done | rfl | (simp only [List.length_drop, List.length_take]; rfl)) ?_; (with_reducible refine (source_Width.calls k (⟨#[226, 130, 172]⟩ : ByteArray) 0 t115 t116 _ A4.out).mono ?_); rintro e w' ⟨rfl, ⟨nd, rfl⟩⟩; refine ⟨_, rfl, ?_⟩) | ((with_reducible refine gate_callee (f := 10) rfl ?_); refine goesL_ (some 30) rfl rfl Try.func10 (by kernel_rfl) rfl #[.string (⟨#[226, 130, 172]⟩ : ByteArray), .int .i64 1] rfl (by (try simp only [List.map_toArray, List.map_cons, List.map_nil]); first | done | rfl | (simp only [List.length_drop, List.length_take]; rfl)) ?_; (with_reducible refine (source_Width.calls k (⟨#[226, 130, 172]⟩ : ByteArray) 1 t117 t118 _ A5.out).mono ?_); rintro e w' ⟨rfl, ⟨nd, rfl⟩⟩; refine ⟨_, rfl, ?_⟩) | ((with_reducible refine gate_callee (f := 10) rfl ?_); refine goesL_ (some 34) rfl rfl Try.func10 (by kernel_rfl) rfl #[.string (⟨#[97]⟩ : ByteArray), .int .i64 1] rfl (by (try simp only [List.map_toArray, List.map_cons, List.map_nil]); first | done | rfl | (simp only [List.length_drop, List.length_take]; rfl)) ?_; (with_reducible refine (source_Width.calls k (⟨#[97]⟩ : ByteArray) 1 t119 t120 _ A6.out).mono ?_); rintro e w' ⟨rfl, ⟨nd, rfl⟩⟩; refine ⟨_, rfl, ?_⟩))
            go_ret
            exact ⟨by first | rfl | (simp; done) | (simp [*]; done), by repeat (first | exact Drawn0.refl _ | apply Drawn0.step)⟩
      · rw [if_neg c9] at H
        have c9b0 : (t111 == 2) = false := beq_eq_false_iff_ne.mpr c9
        have c9b1 : (t111 != 2) = true := bne_iff_ne.mpr c9
        obtain rfl := Option.some.inj H
        go_enter Try.func13, Try.ntmps13
        go_wp2_with (first | ((with_reducible refine gate_callee (f := 8) rfl ?_); refine goesL_ (some 14) rfl rfl Try.func8 (by kernel_rfl) rfl #[.string (⟨#[97, 195, 169, 226, 130, 172, 240, 159, 152, 128]⟩ : ByteArray)] rfl (by (try simp only [List.map_toArray, List.map_cons, List.map_nil]); first | done | rfl | (simp only [List.length_drop, List.length_take]; rfl)) ?_; (with_reducible refine (source_Valid.calls k (⟨#[97, 195, 169, 226, 130, 172, 240, 159, 152, 128]⟩ : ByteArray) t109 true _ A1.out).mono ?_); rintro e w' ⟨rfl, ⟨nd, rfl⟩⟩; refine ⟨_, rfl, ?_⟩) | ((with_reducible refine gate_callee (f := 8) rfl ?_); refine goesL_ (some 18) rfl rfl Try.func8 (by kernel_rfl) rfl #[.string (⟨#[97, 98, 237, 160, 128]⟩ : ByteArray)] rfl (by (try simp only [List.map_toArray, List.map_cons, List.map_nil]); first | done | rfl | (simp only [List.length_drop, List.length_take]; rfl)) ?_; (with_reducible refine (source_Valid.calls k (⟨#[97, 98, 237, 160, 128]⟩ : ByteArray) t111 t112 _ A2.out).mono ?_); rintro e w' ⟨rfl, ⟨nd, rfl⟩⟩; refine ⟨_, rfl, ?_⟩) | ((with_reducible refine gate_callee (f := 8) rfl ?_); refine goesL_ (some 22) rfl rfl Try.func8 (by kernel_rfl) rfl #[.string (⟨#[120, 195]⟩ : ByteArray)] rfl (by (try simp only [List.map_toArray, List.map_cons, List.map_nil]); first | done | rfl | (simp only [List.length_drop, List.length_take]; rfl)) ?_; (with_reducible refine (source_Valid.calls k (⟨#[120, 195]⟩ : ByteArray) t113 t114 _ A3.out).mono ?_); rintro e w' ⟨rfl, ⟨nd, rfl⟩⟩; refine ⟨_, rfl, ?_⟩) | ((with_reducible refine gate_callee (f := 10) rfl ?_); refine goesL_ (some 26) rfl rfl Try.func10 (by kernel_rfl) rfl #[.string (⟨#[226, 130, 172]⟩ : ByteArray), .int .i64 0] rfl (by (try simp only [List.map_toArray, List.map_cons, List.map_nil]); first | done | rfl | (simp only [List.length_drop, List.length_take]; rfl)) ?_; (with_reducible refine (source_Width.calls k (⟨#[226, 130, 172]⟩ : ByteArray) 0 t115 t116 _ A4.out).mono ?_); rintro e w' ⟨rfl, ⟨nd, rfl⟩⟩; refine ⟨_, rfl, ?_⟩) | ((with_reducible refine gate_callee (f := 10) rfl ?_); refine goesL_ (some 30) rfl rfl Try.func10 (by kernel_rfl) rfl #[.string (⟨#[226, 130, 172]⟩ : ByteArray), .int .i64 1] rfl (by (try simp only [List.map_toArray, List.map_cons, List.map_nil]); first | done | rfl | (simp only [List.length_drop, List.length_take]; rfl)) ?_; (with_reducible refine (source_Width.calls k (⟨#[226, 130, 172]⟩ : ByteArray) 1 t117 t118 _ A5.out).mono ?_); rintro e w' ⟨rfl, ⟨nd, rfl⟩⟩; refine ⟨_, rfl, ?_⟩) | ((with_reducible refine gate_callee (f := 10) rfl ?_); refine goesL_ (some 34) rfl rfl Try.func10 (by kernel_rfl) rfl #[.string (⟨#[97]⟩ : ByteArray), .int .i64 1] rfl (by (try simp only [List.map_toArray, List.map_cons, List.map_nil]); first | done | rfl | (simp only [List.length_drop, List.length_take]; rfl)) ?_; (with_reducible refine (source_Width.calls k (⟨#[97]⟩ : ByteArray) 1 t119 t120 _ A6.out).mono ?_); rintro e w' ⟨rfl, ⟨nd, rfl⟩⟩; refine ⟨_, rfl, ?_⟩))
        go_ret
        exact ⟨by first | rfl | (simp; done) | (simp [*]; done), by repeat (first | exact Drawn0.refl _ | apply Drawn0.step)⟩
    · replace c8 := Bool.eq_false_iff.mpr c8
      subst c8
      have H1 : (some false) = some r := by rw [if_neg (show ¬ (false = true) by decide)] at H; exact H
      clear H
      have H := H1
      clear H1
      obtain rfl := Option.some.inj H
      go_enter Try.func13, Try.ntmps13
      go_wp2_with (first | ((with_reducible refine gate_callee (f := 8) rfl ?_); refine goesL_ (some 14) rfl rfl Try.func8 (by kernel_rfl) rfl #[.string (⟨#[97, 195, 169, 226, 130, 172, 240, 159, 152, 128]⟩ : ByteArray)] rfl (by (try simp only [List.map_toArray, List.map_cons, List.map_nil]); first | done | rfl | (simp only [List.length_drop, List.length_take]; rfl)) ?_; (with_reducible refine (source_Valid.calls k (⟨#[97, 195, 169, 226, 130, 172, 240, 159, 152, 128]⟩ : ByteArray) t109 false _ A1.out).mono ?_); rintro e w' ⟨rfl, ⟨nd, rfl⟩⟩; refine ⟨_, rfl, ?_⟩) | ((with_reducible refine gate_callee (f := 8) rfl ?_); refine goesL_ (some 18) rfl rfl Try.func8 (by kernel_rfl) rfl #[.string (⟨#[97, 98, 237, 160, 128]⟩ : ByteArray)] rfl (by (try simp only [List.map_toArray, List.map_cons, List.map_nil]); first | done | rfl | (simp only [List.length_drop, List.length_take]; rfl)) ?_; (with_reducible refine (source_Valid.calls k (⟨#[97, 98, 237, 160, 128]⟩ : ByteArray) t111 t112 _ A2.out).mono ?_); rintro e w' ⟨rfl, ⟨nd, rfl⟩⟩; refine ⟨_, rfl, ?_⟩) | ((with_reducible refine gate_callee (f := 8) rfl ?_); refine goesL_ (some 22) rfl rfl Try.func8 (by kernel_rfl) rfl #[.string (⟨#[120, 195]⟩ : ByteArray)] rfl (by (try simp only [List.map_toArray, List.map_cons, List.map_nil]); first | done | rfl | (simp only [List.length_drop, List.length_take]; rfl)) ?_; (with_reducible refine (source_Valid.calls k (⟨#[120, 195]⟩ : ByteArray) t113 t114 _ A3.out).mono ?_); rintro e w' ⟨rfl, ⟨nd, rfl⟩⟩; refine ⟨_, rfl, ?_⟩) | ((with_reducible refine gate_callee (f := 10) rfl ?_); refine goesL_ (some 26) rfl rfl Try.func10 (by kernel_rfl) rfl #[.string (⟨#[226, 130, 172]⟩ : ByteArray), .int .i64 0] rfl (by (try simp only [List.map_toArray, List.map_cons, List.map_nil]); first | done | rfl | (simp only [List.length_drop, List.length_take]; rfl)) ?_; (with_reducible refine (source_Width.calls k (⟨#[226, 130, 172]⟩ : ByteArray) 0 t115 t116 _ A4.out).mono ?_); rintro e w' ⟨rfl, ⟨nd, rfl⟩⟩; refine ⟨_, rfl, ?_⟩) | ((with_reducible refine gate_callee (f := 10) rfl ?_); refine goesL_ (some 30) rfl rfl Try.func10 (by kernel_rfl) rfl #[.string (⟨#[226, 130, 172]⟩ : ByteArray), .int .i64 1] rfl (by (try simp only [List.map_toArray, List.map_cons, List.map_nil]); first | done | rfl | (simp only [List.length_drop, List.length_take]; rfl)) ?_; (with_reducible refine (source_Width.calls k (⟨#[226, 130, 172]⟩ : ByteArray) 1 t117 t118 _ A5.out).mono ?_); rintro e w' ⟨rfl, ⟨nd, rfl⟩⟩; refine ⟨_, rfl, ?_⟩) | ((with_reducible refine gate_callee (f := 10) rfl ?_); refine goesL_ (some 34) rfl rfl Try.func10 (by kernel_rfl) rfl #[.string (⟨#[97]⟩ : ByteArray), .int .i64 1] rfl (by (try simp only [List.map_toArray, List.map_cons, List.map_nil]); first | done | rfl | (simp only [List.length_drop, List.length_take]; rfl)) ?_; (with_reducible refine (source_Width.calls k (⟨#[97]⟩ : ByteArray) 1 t119 t120 _ A6.out).mono ?_); rintro e w' ⟨rfl, ⟨nd, rfl⟩⟩; refine ⟨_, rfl, ?_⟩))
      go_ret
      exact ⟨by first | rfl | (simp; done) | (simp [*]; done), by repeat (first | exact Drawn0.refl _ | apply Drawn0.step)⟩
  · rw [if_neg c7] at H
    have c7b0 : (t109 == 0) = false := beq_eq_false_iff_ne.mpr c7
    have c7b1 : (t109 != 0) = true := bne_iff_ne.mpr c7
    obtain rfl := Option.some.inj H
    go_enter Try.func13, Try.ntmps13
    go_wp2_with (first | ((with_reducible refine gate_callee (f := 8) rfl ?_); refine goesL_ (some 14) rfl rfl Try.func8 (by kernel_rfl) rfl #[.string (⟨#[97, 195, 169, 226, 130, 172, 240, 159, 152, 128]⟩ : ByteArray)] rfl (by (try simp only [List.map_toArray, List.map_cons, List.map_nil]); first | done | rfl | (simp only [List.length_drop, List.length_take]; rfl)) ?_; (with_reducible refine (source_Valid.calls k (⟨#[97, 195, 169, 226, 130, 172, 240, 159, 152, 128]⟩ : ByteArray) t109 t110 _ A1.out).mono ?_); rintro e w' ⟨rfl, ⟨nd, rfl⟩⟩; refine ⟨_, rfl, ?_⟩) | ((with_reducible refine gate_callee (f := 8) rfl ?_); refine goesL_ (some 18) rfl rfl Try.func8 (by kernel_rfl) rfl #[.string (⟨#[97, 98, 237, 160, 128]⟩ : ByteArray)] rfl (by (try simp only [List.map_toArray, List.map_cons, List.map_nil]); first | done | rfl | (simp only [List.length_drop, List.length_take]; rfl)) ?_; (with_reducible refine (source_Valid.calls k (⟨#[97, 98, 237, 160, 128]⟩ : ByteArray) t111 t112 _ A2.out).mono ?_); rintro e w' ⟨rfl, ⟨nd, rfl⟩⟩; refine ⟨_, rfl, ?_⟩) | ((with_reducible refine gate_callee (f := 8) rfl ?_); refine goesL_ (some 22) rfl rfl Try.func8 (by kernel_rfl) rfl #[.string (⟨#[120, 195]⟩ : ByteArray)] rfl (by (try simp only [List.map_toArray, List.map_cons, List.map_nil]); first | done | rfl | (simp only [List.length_drop, List.length_take]; rfl)) ?_; (with_reducible refine (source_Valid.calls k (⟨#[120, 195]⟩ : ByteArray) t113 t114 _ A3.out).mono ?_); rintro e w' ⟨rfl, ⟨nd, rfl⟩⟩; refine ⟨_, rfl, ?_⟩) | ((with_reducible refine gate_callee (f := 10) rfl ?_); refine goesL_ (some 26) rfl rfl Try.func10 (by kernel_rfl) rfl #[.string (⟨#[226, 130, 172]⟩ : ByteArray), .int .i64 0] rfl (by (try simp only [List.map_toArray, List.map_cons, List.map_nil]); first | done | rfl | (simp only [List.length_drop, List.length_take]; rfl)) ?_; (with_reducible refine (source_Width.calls k (⟨#[226, 130, 172]⟩ : ByteArray) 0 t115 t116 _ A4.out).mono ?_); rintro e w' ⟨rfl, ⟨nd, rfl⟩⟩; refine ⟨_, rfl, ?_⟩) | ((with_reducible refine gate_callee (f := 10) rfl ?_); refine goesL_ (some 30) rfl rfl Try.func10 (by kernel_rfl) rfl #[.string (⟨#[226, 130, 172]⟩ : ByteArray), .int .i64 1] rfl (by (try simp only [List.map_toArray, List.map_cons, List.map_nil]); first | done | rfl | (simp only [List.length_drop, List.length_take]; rfl)) ?_; (with_reducible refine (source_Width.calls k (⟨#[226, 130, 172]⟩ : ByteArray) 1 t117 t118 _ A5.out).mono ?_); rintro e w' ⟨rfl, ⟨nd, rfl⟩⟩; refine ⟨_, rfl, ?_⟩) | ((with_reducible refine gate_callee (f := 10) rfl ?_); refine goesL_ (some 34) rfl rfl Try.func10 (by kernel_rfl) rfl #[.string (⟨#[97]⟩ : ByteArray), .int .i64 1] rfl (by (try simp only [List.map_toArray, List.map_cons, List.map_nil]); first | done | rfl | (simp only [List.length_drop, List.length_take]; rfl)) ?_; (with_reducible refine (source_Width.calls k (⟨#[97]⟩ : ByteArray) 1 t119 t120 _ A6.out).mono ?_); rintro e w' ⟨rfl, ⟨nd, rfl⟩⟩; refine ⟨_, rfl, ?_⟩))
    go_ret
    exact ⟨by first | rfl | (simp; done) | (simp [*]; done), by repeat (first | exact Drawn0.refl _ | apply Drawn0.step)⟩

/-! ### trammellaw1_SourceSigns: function 5 -/
mutual
def trammellaw1_SourceSigns.j0 : Nat → Int → Bool → Option (Bool)
  | 0, _, _ => none
  | k + 1, x3, x26 => if x26 = true then ((source_Valid.f k (strOfNums (([237, (Go.bits .or .i64 128 (Go.bits .and .i64 (x3 / 64) 63)) % 256, (Go.bits .or .i64 128 (Go.bits .and .i64 x3 63)) % 256] : List Int)))).bind fun bt128 => (some (!bt128.2))) else (if x3 ≥ 65536 then (trammellaw1_SourceSigns.j1 k (strOfNums (([(Go.bits .or .i64 240 (x3 / 262144)) % 256, (Go.bits .or .i64 128 (Go.bits .and .i64 (x3 / 4096) 63)) % 256, (Go.bits .or .i64 128 (Go.bits .and .i64 (x3 / 64) 63)) % 256, (Go.bits .or .i64 128 (Go.bits .and .i64 x3 63)) % 256] : List Int))) 4) else (if x3 ≥ 2048 then (trammellaw1_SourceSigns.j1 k (strOfNums (([(Go.bits .or .i64 224 (x3 / 4096)) % 256, (Go.bits .or .i64 128 (Go.bits .and .i64 (x3 / 64) 63)) % 256, (Go.bits .or .i64 128 (Go.bits .and .i64 x3 63)) % 256] : List Int))) 3) else (if x3 ≥ 128 then (trammellaw1_SourceSigns.j1 k (strOfNums (([(Go.bits .or .i64 192 (x3 / 64)) % 256, (Go.bits .or .i64 128 (Go.bits .and .i64 x3 63)) % 256] : List Int))) 2) else (trammellaw1_SourceSigns.j1 k (strOfNums (([(Go.bits .and .i64 x3 127) % 256] : List Int))) 1))))
def trammellaw1_SourceSigns.j1 : Nat → ByteArray → Int → Option (Bool)
  | 0, _, _ => none
  | k + 1, x7, x8 => (source_Valid.f k x7).bind fun bt142 => ((source_Width.f k x7 0).bind fun bt144 => (if 0 ≤ (wrap64 (x8 - 1)) then (if (wrap64 (x8 - 1)) ≤ (x7.size : Int) then ((source_Valid.f k (x7.extract 0 ((wrap64 (x8 - 1)) : Int).toNat)).bind fun bt146 => (if bt142.2 = true then (if bt144.1 = x8 then ((trammellaw0_Num.f bt144.2).bind fun t148 => (if t148 = 0 then (if bt146.2 = true then (some true) else (some (decide (x8 > 1)))) else (some false))) else (some false)) else (some false))) else (none)) else (none)))
end
def trammellaw1_SourceSigns.f (k : Nat) (a0 : Int) : Option (Bool) := (trammellaw1_awake.f k).bind fun t124 => (if t124 = true then (if (wrap64 (Int.tmod (IntKind.u64.wrap (a0)) 1114112)) ≥ 55296 then (trammellaw1_SourceSigns.j0 k (wrap64 (Int.tmod (IntKind.u64.wrap (a0)) 1114112)) (decide ((wrap64 (Int.tmod (IntKind.u64.wrap (a0)) 1114112)) < 57344))) else (trammellaw1_SourceSigns.j0 k (wrap64 (Int.tmod (IntKind.u64.wrap (a0)) 1114112)) false)) else (some false))
theorem trammellaw1_SourceSigns.mono_l : ∀ k, (∀ y0 y1, LeO (trammellaw1_SourceSigns.j0 k y0 y1) (trammellaw1_SourceSigns.j0 (k + 1) y0 y1)) ∧ (∀ y0 y1, LeO (trammellaw1_SourceSigns.j1 k y0 y1) (trammellaw1_SourceSigns.j1 (k + 1) y0 y1))
  | 0 => ⟨fun _ _ r h => by simp [trammellaw1_SourceSigns.j0] at h, fun _ _ r h => by simp [trammellaw1_SourceSigns.j1] at h⟩
  | k + 1 => by
    obtain ⟨ih0, ih1⟩ := trammellaw1_SourceSigns.mono_l k
    refine ⟨?_, ?_⟩
    · intro y0 y1
      unfold trammellaw1_SourceSigns.j0
      repeat' first
      | (with_reducible exact ih0 _ _)
      | (with_reducible exact ih1 _ _)
      | (with_reducible exact source_Valid.mono _ _)
      | (with_reducible exact source_Width.mono _ _ _)
      | (with_reducible exact trammellaw1_awake.mono _)
      | (with_reducible exact LeO.refl _)
      | (with_reducible exact LeO.none _)
      | (with_reducible refine LeO.ite ?_ ?_)
      | (with_reducible refine LeO.bind ?_ (fun _ => ?_))
      | exact ih0 _ _
      | exact ih1 _ _
      | exact source_Valid.mono _ _
      | exact source_Width.mono _ _ _
      | exact trammellaw1_awake.mono _
      | exact LeO.none _
      | refine LeO.ite ?_ ?_
      | refine LeO.bind ?_ (fun _ => ?_)
    · intro y0 y1
      unfold trammellaw1_SourceSigns.j1
      repeat' first
      | (with_reducible exact ih0 _ _)
      | (with_reducible exact ih1 _ _)
      | (with_reducible exact source_Valid.mono _ _)
      | (with_reducible exact source_Width.mono _ _ _)
      | (with_reducible exact trammellaw1_awake.mono _)
      | (with_reducible exact LeO.refl _)
      | (with_reducible exact LeO.none _)
      | (with_reducible refine LeO.ite ?_ ?_)
      | (with_reducible refine LeO.bind ?_ (fun _ => ?_))
      | exact ih0 _ _
      | exact ih1 _ _
      | exact source_Valid.mono _ _
      | exact source_Width.mono _ _ _
      | exact trammellaw1_awake.mono _
      | exact LeO.none _
      | refine LeO.ite ?_ ?_
      | refine LeO.bind ?_ (fun _ => ?_)
theorem trammellaw1_SourceSigns.mono : ∀ a0 k, LeO (trammellaw1_SourceSigns.f k a0) (trammellaw1_SourceSigns.f (k + 1) a0) := by
  intro a0 k
  obtain ⟨ih0, ih1⟩ := trammellaw1_SourceSigns.mono_l k
  unfold trammellaw1_SourceSigns.f
  repeat' first
      | (with_reducible exact ih0 _ _)
      | (with_reducible exact ih1 _ _)
      | (with_reducible exact source_Valid.mono _ _)
      | (with_reducible exact source_Width.mono _ _ _)
      | (with_reducible exact trammellaw1_awake.mono _)
      | (with_reducible exact LeO.refl _)
      | (with_reducible exact LeO.none _)
      | (with_reducible refine LeO.ite ?_ ?_)
      | (with_reducible refine LeO.bind ?_ (fun _ => ?_))
      | exact ih0 _ _
      | exact ih1 _ _
      | exact source_Valid.mono _ _
      | exact source_Width.mono _ _ _
      | exact trammellaw1_awake.mono _
      | exact LeO.none _
      | refine LeO.ite ?_ ?_
      | refine LeO.bind ?_ (fun _ => ?_)
set_option maxHeartbeats 8000000 in
set_option maxRecDepth 100000 in
theorem trammellaw1_SourceSigns.calls (k : Nat) (a0 : Int) (r : Bool) (w : World) (h : trammellaw1_SourceSigns.f k a0 = some r) :
    Calls Try.prog 5 #[.int .i64 a0] w fun e w' => e = .returned (.bool r) ∧ Below w.heap.size w w' := by
  have HB := Aside0.mk (Below.refl w.heap.size w)
  have H : ((trammellaw1_awake.f k).bind fun t124 => (if t124 = true then (if (wrap64 (Int.tmod (IntKind.u64.wrap (a0)) 1114112)) ≥ 55296 then (trammellaw1_SourceSigns.j0 k (wrap64 (Int.tmod (IntKind.u64.wrap (a0)) 1114112)) (decide ((wrap64 (Int.tmod (IntKind.u64.wrap (a0)) 1114112)) < 57344))) else (trammellaw1_SourceSigns.j0 k (wrap64 (Int.tmod (IntKind.u64.wrap (a0)) 1114112)) false)) else (some false))) = some r := h
  clear h
  replace H := Option.bind_eq_some_iff.mp H
  obtain ⟨t124, A20, H⟩ := H
  replace H : (if t124 = true then (if (wrap64 (Int.tmod (IntKind.u64.wrap (a0)) 1114112)) ≥ 55296 then (trammellaw1_SourceSigns.j0 k (wrap64 (Int.tmod (IntKind.u64.wrap (a0)) 1114112)) (decide ((wrap64 (Int.tmod (IntKind.u64.wrap (a0)) 1114112)) < 57344))) else (trammellaw1_SourceSigns.j0 k (wrap64 (Int.tmod (IntKind.u64.wrap (a0)) 1114112)) false)) else (some false)) = some r := H
  have A2 := Aside0.mk A20
  clear A20
  by_cases c3 : t124 = true
  · subst c3
    have H1 : (if (wrap64 (Int.tmod (IntKind.u64.wrap (a0)) 1114112)) ≥ 55296 then (trammellaw1_SourceSigns.j0 k (wrap64 (Int.tmod (IntKind.u64.wrap (a0)) 1114112)) (decide ((wrap64 (Int.tmod (IntKind.u64.wrap (a0)) 1114112)) < 57344))) else (trammellaw1_SourceSigns.j0 k (wrap64 (Int.tmod (IntKind.u64.wrap (a0)) 1114112)) false)) = some r := by rw [if_pos rfl] at H; exact H
    clear H
    have H := H1
    clear H1
    have HC4 := Aside0.mk H
    clear H
    go_enter Try.func5, Try.ntmps5
    go_upto_region 4 with (first | ((with_reducible refine gate_callee (f := 13) rfl ?_); refine goesL_ (some 15) rfl rfl Try.func13 (by kernel_rfl) rfl #[] rfl (by (try simp only [List.map_toArray, List.map_cons, List.map_nil]); first | done | rfl | (simp only [List.length_drop, List.length_take]; rfl)) ?_; (with_reducible refine (trammellaw1_awake.calls k  true _ A2.out).mono ?_); rintro e w' ⟨rfl, ⟨nd, rfl⟩⟩; refine ⟨_, rfl, ?_⟩))
    (try simp only [Act.put, List.setIfInBounds_toArray, List.set_cons_zero, List.set_cons_succ])
    go_cut [26] (fun v26 wc => ∃ (kq : Nat) (x26_3 : Bool), v26 = .bool x26_3 ∧ Aside0 (trammellaw1_SourceSigns.j0 kq (wrap64 (Int.tmod (IntKind.u64.wrap (a0)) 1114112)) x26_3 = some r) ∧ Aside0 (kq ≤ k) ∧ Aside0 (Below w.heap.size w wc))
    case first =>
      have H := HC4.out
      clear HC4
      by_cases c5 : (wrap64 (Int.tmod (IntKind.u64.wrap (a0)) 1114112)) ≥ 55296
      · rw [if_pos c5] at H
        have c5b0 : decide (55296 ≤ (wrap64 (Int.tmod (IntKind.u64.wrap (a0)) 1114112))) = true := decide_eq_true c5
        clear c5
        (first | rw [c5b0] | (simp only [i64_w, i32_w]; rw [c5b0]) | skip)
        have H' := Aside0.mk H
        clear H
        go_wp2
        go_meet
        case rel => exact ⟨_, (decide ((wrap64 (Int.tmod (IntKind.u64.wrap (a0)) 1114112)) < 57344)), (by first | rfl | (simp; done) | (simp [*]; done)), H', ⟨by first | omega | exact Nat.le_refl _⟩, ⟨by repeat (first | (with_reducible first | exact HB.out | apply below_alloc | apply pw_below_drewN | apply below_drew1) | exact HB.out)⟩⟩
      · rw [if_neg c5] at H
        have c5b0 : decide (55296 ≤ (wrap64 (Int.tmod (IntKind.u64.wrap (a0)) 1114112))) = false := decide_eq_false c5
        clear c5
        (first | rw [c5b0] | (simp only [i64_w, i32_w]; rw [c5b0]) | skip)
        have H' := Aside0.mk H
        clear H
        go_wp2
        go_meet
        case rel => exact ⟨_, (false), (by first | rfl | (simp; done) | (simp [*]; done)), H', ⟨by first | omega | exact Nat.le_refl _⟩, ⟨by repeat (first | (with_reducible first | exact HB.out | apply below_alloc | apply pw_below_drewN | apply below_drew1) | exact HB.out)⟩⟩
    case rest =>
      clear HC4
      try clear c1
      try clear p2
      try clear c3
      try clear c5
      try clear c5b0
      obtain ⟨kq, x26_3, rfl, HA, HJ3, HB⟩ := hcut
      cases kq with
      | zero => exact absurd HA.out (by simp [trammellaw1_SourceSigns.j0])
      | succ kj3 =>
        have H := HA.out
        clear HA
        simp only [trammellaw1_SourceSigns.j0] at H
        by_cases c6 : x26_3 = true
        · subst c6
          have H1 : ((source_Valid.f kj3 (strOfNums (([237, (Go.bits .or .i64 128 (Go.bits .and .i64 ((wrap64 (Int.tmod (IntKind.u64.wrap (a0)) 1114112)) / 64) 63)) % 256, (Go.bits .or .i64 128 (Go.bits .and .i64 (wrap64 (Int.tmod (IntKind.u64.wrap (a0)) 1114112)) 63)) % 256] : List Int)))).bind fun bt128 => (some (!bt128.2))) = some r := by rw [if_pos rfl] at H; exact H
          clear H
          have H := H1
          clear H1
          obtain ⟨y125, hy125⟩ : ∃ y_ : List Int, y_ = (([237, (Go.bits .or .i64 128 (Go.bits .and .i64 ((wrap64 (Int.tmod (IntKind.u64.wrap (a0)) 1114112)) / 64) 63)) % 256, (Go.bits .or .i64 128 (Go.bits .and .i64 (wrap64 (Int.tmod (IntKind.u64.wrap (a0)) 1114112)) 63)) % 256] : List Int)) := ⟨_, rfl⟩
          replace H : ((source_Valid.f kj3 (strOfNums y125)).bind fun bt128 => (some (!bt128.2))) = some r := by first | (rw [hy125]; with_reducible exact H) | (have H2_ := (Option.bind_some _ _).symm.trans H; rw [hy125]; with_reducible exact H2_) | (have H2_ := (Option.bind_some _ _).symm.trans H; with_reducible exact H2_) | with_reducible exact H | (rw [hy125]; exact H) | exact H
          have Ny125 := Aside0.mk hy125
          clear hy125
          replace H := Option.bind_eq_some_iff.mp H
          obtain ⟨⟨t128, t129⟩, A70, H⟩ := H
          replace H : (some (!t129)) = some r := H
          have A7 := Aside0.mk A70
          clear A70
          obtain rfl := Option.some.inj H
          go_wp2_with (first | ((with_reducible refine gate_dst (N := 36) rfl ?_); refine Kd.R_lit (Kd.int .u8) _ 5 ?hg (N := 36) ?hd (xs := ([237, (Go.bits .or .i64 128 (Go.bits .and .i64 ((wrap64 (Int.tmod (IntKind.u64.wrap (a0)) 1114112)) / 64) 63)) % 256, (Go.bits .or .i64 128 (Go.bits .and .i64 (wrap64 (Int.tmod (IntKind.u64.wrap (a0)) 1114112)) 63)) % 256] : List Int)) (inner := [.int .u8 237, .int .u8 ((Go.bits .or .i64 128 (Go.bits .and .i64 ((wrap64 (Int.tmod (IntKind.u64.wrap (a0)) 1114112)) / 64) 63)) % 256), .int .u8 ((Go.bits .or .i64 128 (Go.bits .and .i64 (wrap64 (Int.tmod (IntKind.u64.wrap (a0)) 1114112)) 63)) % 256)]) (ok := fun _ => True) (okp := fun _ => True) ?hr ?hp (fun _ hk => hk) trivial (Below.refl _ _) (Nat.le_refl _) (by simp) ?_; (case hd => rfl); (case hg => rfl); (case hr => first | (go_simp; done) | (go_simp; rfl)); (case hp => exact (Reps.one (show Kd.M (Kd.int .u8) _ _ _ 237 [.int .u8 237] from rfl) (Reps.one (show Kd.M (Kd.int .u8) _ _ _ ((Go.bits .or .i64 128 (Go.bits .and .i64 ((wrap64 (Int.tmod (IntKind.u64.wrap (a0)) 1114112)) / 64) 63)) % 256) [.int .u8 ((Go.bits .or .i64 128 (Go.bits .and .i64 ((wrap64 (Int.tmod (IntKind.u64.wrap (a0)) 1114112)) / 64) 63)) % 256)] from rfl) (Reps.one (show Kd.M (Kd.int .u8) _ _ _ ((Go.bits .or .i64 128 (Go.bits .and .i64 (wrap64 (Int.tmod (IntKind.u64.wrap (a0)) 1114112)) 63)) % 256) [.int .u8 ((Go.bits .or .i64 128 (Go.bits .and .i64 (wrap64 (Int.tmod (IntKind.u64.wrap (a0)) 1114112)) 63)) % 256)] from rfl) (Reps.none _ _))))); intro v126 w8 ho9 hb hg_ hnew_; clear hg_ hnew_; (first | rw [← Ny125.out] at ho9 | (simp only [Int.reduceToNat] at ho9; rw [← Ny125.out] at ho9)); have n0_ := Aside0.mk (Kd.R_lower ho9 (below_size (by repeat (first | (with_reducible first | exact HB.out | apply below_alloc | apply pw_below_drewN | apply below_drew1) | exact HB.out)))); have n1_ := Aside0.mk (below_step (by repeat (first | (with_reducible first | exact HB.out | apply below_alloc | apply pw_below_drewN | apply below_drew1) | exact HB.out)) hb); clear HB; have HO127 := n0_; have HB := n1_; clear n0_ n1_; clear hb ho9; have hcv10 := own_string (P := Try.prog) Try.underlying33 Try.underlying5 Try.underlying9 (Kd.own_of_R HO127.out)) | ((with_reducible refine gate_callee (f := 8) rfl ?_); refine goesL_ (some 40) rfl rfl Try.func8 (by kernel_rfl) rfl #[.string (strOfNums y125)] rfl (by (try simp only [List.map_toArray, List.map_cons, List.map_nil]); first | done | rfl | (simp only [List.length_drop, List.length_take]; rfl)) ?_; (with_reducible refine (source_Valid.calls kj3 (strOfNums y125) t128 t129 _ A7.out).mono ?_); rintro e w' ⟨rfl, ⟨nd, rfl⟩⟩; refine ⟨_, rfl, ?_⟩))
          go_ret
          exact ⟨by first | rfl | (simp [errW_none, errW_some] <;> rfl) | (simp [*, errW_none, errW_some] <;> rfl), by repeat (first | (with_reducible first | exact HB.out | apply below_alloc | apply pw_below_drewN | apply below_drew1) | exact HB.out)⟩
        · replace c6 := Bool.eq_false_iff.mpr c6
          subst c6
          have H1 : (if (wrap64 (Int.tmod (IntKind.u64.wrap (a0)) 1114112)) ≥ 65536 then (trammellaw1_SourceSigns.j1 kj3 (strOfNums (([(Go.bits .or .i64 240 ((wrap64 (Int.tmod (IntKind.u64.wrap (a0)) 1114112)) / 262144)) % 256, (Go.bits .or .i64 128 (Go.bits .and .i64 ((wrap64 (Int.tmod (IntKind.u64.wrap (a0)) 1114112)) / 4096) 63)) % 256, (Go.bits .or .i64 128 (Go.bits .and .i64 ((wrap64 (Int.tmod (IntKind.u64.wrap (a0)) 1114112)) / 64) 63)) % 256, (Go.bits .or .i64 128 (Go.bits .and .i64 (wrap64 (Int.tmod (IntKind.u64.wrap (a0)) 1114112)) 63)) % 256] : List Int))) 4) else (if (wrap64 (Int.tmod (IntKind.u64.wrap (a0)) 1114112)) ≥ 2048 then (trammellaw1_SourceSigns.j1 kj3 (strOfNums (([(Go.bits .or .i64 224 ((wrap64 (Int.tmod (IntKind.u64.wrap (a0)) 1114112)) / 4096)) % 256, (Go.bits .or .i64 128 (Go.bits .and .i64 ((wrap64 (Int.tmod (IntKind.u64.wrap (a0)) 1114112)) / 64) 63)) % 256, (Go.bits .or .i64 128 (Go.bits .and .i64 (wrap64 (Int.tmod (IntKind.u64.wrap (a0)) 1114112)) 63)) % 256] : List Int))) 3) else (if (wrap64 (Int.tmod (IntKind.u64.wrap (a0)) 1114112)) ≥ 128 then (trammellaw1_SourceSigns.j1 kj3 (strOfNums (([(Go.bits .or .i64 192 ((wrap64 (Int.tmod (IntKind.u64.wrap (a0)) 1114112)) / 64)) % 256, (Go.bits .or .i64 128 (Go.bits .and .i64 (wrap64 (Int.tmod (IntKind.u64.wrap (a0)) 1114112)) 63)) % 256] : List Int))) 2) else (trammellaw1_SourceSigns.j1 kj3 (strOfNums (([(Go.bits .and .i64 (wrap64 (Int.tmod (IntKind.u64.wrap (a0)) 1114112)) 127) % 256] : List Int))) 1)))) = some r := by rw [if_neg (show ¬ (false = true) by decide)] at H; exact H
          clear H
          have H := H1
          clear H1
          obtain ⟨y130, hy130⟩ : ∃ y_ : List Int, y_ = (([(Go.bits .and .i64 (wrap64 (Int.tmod (IntKind.u64.wrap (a0)) 1114112)) 127) % 256] : List Int)) := ⟨_, rfl⟩
          replace H : (if (wrap64 (Int.tmod (IntKind.u64.wrap (a0)) 1114112)) ≥ 65536 then (trammellaw1_SourceSigns.j1 kj3 (strOfNums (([(Go.bits .or .i64 240 ((wrap64 (Int.tmod (IntKind.u64.wrap (a0)) 1114112)) / 262144)) % 256, (Go.bits .or .i64 128 (Go.bits .and .i64 ((wrap64 (Int.tmod (IntKind.u64.wrap (a0)) 1114112)) / 4096) 63)) % 256, (Go.bits .or .i64 128 (Go.bits .and .i64 ((wrap64 (Int.tmod (IntKind.u64.wrap (a0)) 1114112)) / 64) 63)) % 256, (Go.bits .or .i64 128 (Go.bits .and .i64 (wrap64 (Int.tmod (IntKind.u64.wrap (a0)) 1114112)) 63)) % 256] : List Int))) 4) else (if (wrap64 (Int.tmod (IntKind.u64.wrap (a0)) 1114112)) ≥ 2048 then (trammellaw1_SourceSigns.j1 kj3 (strOfNums (([(Go.bits .or .i64 224 ((wrap64 (Int.tmod (IntKind.u64.wrap (a0)) 1114112)) / 4096)) % 256, (Go.bits .or .i64 128 (Go.bits .and .i64 ((wrap64 (Int.tmod (IntKind.u64.wrap (a0)) 1114112)) / 64) 63)) % 256, (Go.bits .or .i64 128 (Go.bits .and .i64 (wrap64 (Int.tmod (IntKind.u64.wrap (a0)) 1114112)) 63)) % 256] : List Int))) 3) else (if (wrap64 (Int.tmod (IntKind.u64.wrap (a0)) 1114112)) ≥ 128 then (trammellaw1_SourceSigns.j1 kj3 (strOfNums (([(Go.bits .or .i64 192 ((wrap64 (Int.tmod (IntKind.u64.wrap (a0)) 1114112)) / 64)) % 256, (Go.bits .or .i64 128 (Go.bits .and .i64 (wrap64 (Int.tmod (IntKind.u64.wrap (a0)) 1114112)) 63)) % 256] : List Int))) 2) else (trammellaw1_SourceSigns.j1 kj3 (strOfNums y130) 1)))) = some r := by first | (rw [hy130]; with_reducible exact H) | (have H2_ := (Option.bind_some _ _).symm.trans H; rw [hy130]; with_reducible exact H2_) | (have H2_ := (Option.bind_some _ _).symm.trans H; with_reducible exact H2_) | with_reducible exact H | (rw [hy130]; exact H) | exact H
          have Ny130 := Aside0.mk hy130
          clear hy130
          have HC11 := Aside0.mk H
          clear H
          go_upto_block 0 with (first | ((with_reducible refine gate_dst (N := 48) rfl ?_); refine Kd.R_lit (Kd.int .u8) _ 5 ?hg (N := 48) ?hd (xs := ([(Go.bits .and .i64 (wrap64 (Int.tmod (IntKind.u64.wrap (a0)) 1114112)) 127) % 256] : List Int)) (inner := [.int .u8 ((Go.bits .and .i64 (wrap64 (Int.tmod (IntKind.u64.wrap (a0)) 1114112)) 127) % 256)]) (ok := fun _ => True) (okp := fun _ => True) ?hr ?hp (fun _ hk => hk) trivial (Below.refl _ _) (Nat.le_refl _) (by simp) ?_; (case hd => rfl); (case hg => rfl); (case hr => first | (go_simp; done) | (go_simp; rfl)); (case hp => exact (Reps.one (show Kd.M (Kd.int .u8) _ _ _ ((Go.bits .and .i64 (wrap64 (Int.tmod (IntKind.u64.wrap (a0)) 1114112)) 127) % 256) [.int .u8 ((Go.bits .and .i64 (wrap64 (Int.tmod (IntKind.u64.wrap (a0)) 1114112)) 127) % 256)] from rfl) (Reps.none _ _))); intro v131 w12 ho13 hb hg_ hnew_; clear hg_ hnew_; (first | rw [← Ny130.out] at ho13 | (simp only [Int.reduceToNat] at ho13; rw [← Ny130.out] at ho13)); have n0_ := Aside0.mk (Kd.R_lower ho13 (below_size (by repeat (first | (with_reducible first | exact HB.out | apply below_alloc | apply pw_below_drewN | apply below_drew1) | exact HB.out)))); have n1_ := Aside0.mk (below_step (by repeat (first | (with_reducible first | exact HB.out | apply below_alloc | apply pw_below_drewN | apply below_drew1) | exact HB.out)) hb); clear HB; have HO132 := n0_; have HB := n1_; clear n0_ n1_; clear hb ho13; have hcv14 := own_string (P := Try.prog) Try.underlying33 Try.underlying5 Try.underlying9 (Kd.own_of_R HO132.out)))
          (try simp only [Act.put, List.setIfInBounds_toArray, List.set_cons_zero, List.set_cons_succ])
          go_cut [7, 8] (fun v7 v8 wc => ∃ (kq : Nat) (x7_10 : ByteArray) (x8_10 : Int), v7 = .string x7_10 ∧ v8 = .int .i64 x8_10 ∧ Aside0 (trammellaw1_SourceSigns.j1 kq x7_10 x8_10 = some r) ∧ Aside0 (kq ≤ kj3) ∧ Aside0 (Below w.heap.size w wc))
          case first =>
            have H := HC11.out
            clear HC11
            by_cases c15 : (wrap64 (Int.tmod (IntKind.u64.wrap (a0)) 1114112)) ≥ 65536
            · rw [if_pos c15] at H
              have c15b0 : decide (65536 ≤ (wrap64 (Int.tmod (IntKind.u64.wrap (a0)) 1114112))) = true := decide_eq_true c15
              clear c15
              (first | rw [c15b0] | (simp only [i64_w, i32_w]; rw [c15b0]) | skip)
              obtain ⟨y133, hy133⟩ : ∃ y_ : List Int, y_ = (([(Go.bits .or .i64 240 ((wrap64 (Int.tmod (IntKind.u64.wrap (a0)) 1114112)) / 262144)) % 256, (Go.bits .or .i64 128 (Go.bits .and .i64 ((wrap64 (Int.tmod (IntKind.u64.wrap (a0)) 1114112)) / 4096) 63)) % 256, (Go.bits .or .i64 128 (Go.bits .and .i64 ((wrap64 (Int.tmod (IntKind.u64.wrap (a0)) 1114112)) / 64) 63)) % 256, (Go.bits .or .i64 128 (Go.bits .and .i64 (wrap64 (Int.tmod (IntKind.u64.wrap (a0)) 1114112)) 63)) % 256] : List Int)) := ⟨_, rfl⟩
              replace H : (trammellaw1_SourceSigns.j1 kj3 (strOfNums y133) 4) = some r := by first | (rw [hy133]; with_reducible exact H) | (have H2_ := (Option.bind_some _ _).symm.trans H; rw [hy133]; with_reducible exact H2_) | (have H2_ := (Option.bind_some _ _).symm.trans H; with_reducible exact H2_) | with_reducible exact H | (rw [hy133]; exact H) | exact H
              have Ny133 := Aside0.mk hy133
              clear hy133
              have H' := Aside0.mk H
              clear H
              go_wp2_with (first | ((with_reducible refine gate_dst (N := 71) rfl ?_); refine Kd.R_lit (Kd.int .u8) _ 5 ?hg (N := 71) ?hd (xs := ([(Go.bits .or .i64 240 ((wrap64 (Int.tmod (IntKind.u64.wrap (a0)) 1114112)) / 262144)) % 256, (Go.bits .or .i64 128 (Go.bits .and .i64 ((wrap64 (Int.tmod (IntKind.u64.wrap (a0)) 1114112)) / 4096) 63)) % 256, (Go.bits .or .i64 128 (Go.bits .and .i64 ((wrap64 (Int.tmod (IntKind.u64.wrap (a0)) 1114112)) / 64) 63)) % 256, (Go.bits .or .i64 128 (Go.bits .and .i64 (wrap64 (Int.tmod (IntKind.u64.wrap (a0)) 1114112)) 63)) % 256] : List Int)) (inner := [.int .u8 ((Go.bits .or .i64 240 ((wrap64 (Int.tmod (IntKind.u64.wrap (a0)) 1114112)) / 262144)) % 256), .int .u8 ((Go.bits .or .i64 128 (Go.bits .and .i64 ((wrap64 (Int.tmod (IntKind.u64.wrap (a0)) 1114112)) / 4096) 63)) % 256), .int .u8 ((Go.bits .or .i64 128 (Go.bits .and .i64 ((wrap64 (Int.tmod (IntKind.u64.wrap (a0)) 1114112)) / 64) 63)) % 256), .int .u8 ((Go.bits .or .i64 128 (Go.bits .and .i64 (wrap64 (Int.tmod (IntKind.u64.wrap (a0)) 1114112)) 63)) % 256)]) (ok := fun _ => True) (okp := fun _ => True) ?hr ?hp (fun _ hk => hk) trivial (Below.refl _ _) (Nat.le_refl _) (by simp) ?_; (case hd => rfl); (case hg => rfl); (case hr => first | (go_simp; done) | (go_simp; rfl)); (case hp => exact (Reps.one (show Kd.M (Kd.int .u8) _ _ _ ((Go.bits .or .i64 240 ((wrap64 (Int.tmod (IntKind.u64.wrap (a0)) 1114112)) / 262144)) % 256) [.int .u8 ((Go.bits .or .i64 240 ((wrap64 (Int.tmod (IntKind.u64.wrap (a0)) 1114112)) / 262144)) % 256)] from rfl) (Reps.one (show Kd.M (Kd.int .u8) _ _ _ ((Go.bits .or .i64 128 (Go.bits .and .i64 ((wrap64 (Int.tmod (IntKind.u64.wrap (a0)) 1114112)) / 4096) 63)) % 256) [.int .u8 ((Go.bits .or .i64 128 (Go.bits .and .i64 ((wrap64 (Int.tmod (IntKind.u64.wrap (a0)) 1114112)) / 4096) 63)) % 256)] from rfl) (Reps.one (show Kd.M (Kd.int .u8) _ _ _ ((Go.bits .or .i64 128 (Go.bits .and .i64 ((wrap64 (Int.tmod (IntKind.u64.wrap (a0)) 1114112)) / 64) 63)) % 256) [.int .u8 ((Go.bits .or .i64 128 (Go.bits .and .i64 ((wrap64 (Int.tmod (IntKind.u64.wrap (a0)) 1114112)) / 64) 63)) % 256)] from rfl) (Reps.one (show Kd.M (Kd.int .u8) _ _ _ ((Go.bits .or .i64 128 (Go.bits .and .i64 (wrap64 (Int.tmod (IntKind.u64.wrap (a0)) 1114112)) 63)) % 256) [.int .u8 ((Go.bits .or .i64 128 (Go.bits .and .i64 (wrap64 (Int.tmod (IntKind.u64.wrap (a0)) 1114112)) 63)) % 256)] from rfl) (Reps.none _ _)))))); intro v134 w16 ho17 hb hg_ hnew_; clear hg_ hnew_; (first | rw [← Ny133.out] at ho17 | (simp only [Int.reduceToNat] at ho17; rw [← Ny133.out] at ho17)); have n0_ := Aside0.mk (Kd.R_elder' (by (with_reducible repeat (first | apply Kd.R_alloc | apply Kd.R_drewN | apply Kd.R_drew)); exact HO132.out) (Kd.R_base ho17) hb); have n1_ := Aside0.mk (Kd.R_lower (Kd.R_new' ho17 (Kd.R_lt (by (with_reducible repeat (first | apply Kd.R_alloc | apply Kd.R_drewN | apply Kd.R_drew)); exact HO132.out))) (below_size (by repeat (first | (with_reducible first | exact HB.out | apply below_alloc | apply pw_below_drewN | apply below_drew1) | exact HB.out)))); have n2_ := Aside0.mk (below_step (by repeat (first | (with_reducible first | exact HB.out | apply below_alloc | apply pw_below_drewN | apply below_drew1) | exact HB.out)) hb); clear HO132; clear HB; have HO132 := n0_; have HO135 := n1_; have HB := n2_; clear n0_ n1_ n2_; clear hb ho17; have hcv18 := own_string (P := Try.prog) Try.underlying33 Try.underlying5 Try.underlying9 (Kd.own_of_R HO135.out)))
              go_meet
              case rel => exact ⟨_, (strOfNums y133), (4), (by first | rfl | (simp; done) | (simp [*]; done)), (by first | rfl | (simp; done) | (simp [*]; done)), H', ⟨by have := HJ3.out; first | omega | exact Nat.le_refl _⟩, ⟨by repeat (first | (with_reducible first | exact HB.out | apply below_alloc | apply pw_below_drewN | apply below_drew1) | exact HB.out)⟩⟩
            · rw [if_neg c15] at H
              have c15b0 : decide (65536 ≤ (wrap64 (Int.tmod (IntKind.u64.wrap (a0)) 1114112))) = false := decide_eq_false c15
              clear c15
              (first | rw [c15b0] | (simp only [i64_w, i32_w]; rw [c15b0]) | skip)
              by_cases c19 : (wrap64 (Int.tmod (IntKind.u64.wrap (a0)) 1114112)) ≥ 2048
              · rw [if_pos c19] at H
                have c19b0 : decide (2048 ≤ (wrap64 (Int.tmod (IntKind.u64.wrap (a0)) 1114112))) = true := decide_eq_true c19
                clear c19
                obtain ⟨y136, hy136⟩ : ∃ y_ : List Int, y_ = (([(Go.bits .or .i64 224 ((wrap64 (Int.tmod (IntKind.u64.wrap (a0)) 1114112)) / 4096)) % 256, (Go.bits .or .i64 128 (Go.bits .and .i64 ((wrap64 (Int.tmod (IntKind.u64.wrap (a0)) 1114112)) / 64) 63)) % 256, (Go.bits .or .i64 128 (Go.bits .and .i64 (wrap64 (Int.tmod (IntKind.u64.wrap (a0)) 1114112)) 63)) % 256] : List Int)) := ⟨_, rfl⟩
                replace H : (trammellaw1_SourceSigns.j1 kj3 (strOfNums y136) 3) = some r := by first | (rw [hy136]; with_reducible exact H) | (have H2_ := (Option.bind_some _ _).symm.trans H; rw [hy136]; with_reducible exact H2_) | (have H2_ := (Option.bind_some _ _).symm.trans H; with_reducible exact H2_) | with_reducible exact H | (rw [hy136]; exact H) | exact H
                have Ny136 := Aside0.mk hy136
                clear hy136
                have H' := Aside0.mk H
                clear H
                go_wp2_with (first | ((with_reducible refine gate_dst (N := 89) rfl ?_); refine Kd.R_lit (Kd.int .u8) _ 5 ?hg (N := 89) ?hd (xs := ([(Go.bits .or .i64 224 ((wrap64 (Int.tmod (IntKind.u64.wrap (a0)) 1114112)) / 4096)) % 256, (Go.bits .or .i64 128 (Go.bits .and .i64 ((wrap64 (Int.tmod (IntKind.u64.wrap (a0)) 1114112)) / 64) 63)) % 256, (Go.bits .or .i64 128 (Go.bits .and .i64 (wrap64 (Int.tmod (IntKind.u64.wrap (a0)) 1114112)) 63)) % 256] : List Int)) (inner := [.int .u8 ((Go.bits .or .i64 224 ((wrap64 (Int.tmod (IntKind.u64.wrap (a0)) 1114112)) / 4096)) % 256), .int .u8 ((Go.bits .or .i64 128 (Go.bits .and .i64 ((wrap64 (Int.tmod (IntKind.u64.wrap (a0)) 1114112)) / 64) 63)) % 256), .int .u8 ((Go.bits .or .i64 128 (Go.bits .and .i64 (wrap64 (Int.tmod (IntKind.u64.wrap (a0)) 1114112)) 63)) % 256)]) (ok := fun _ => True) (okp := fun _ => True) ?hr ?hp (fun _ hk => hk) trivial (Below.refl _ _) (Nat.le_refl _) (by simp) ?_; (case hd => rfl); (case hg => rfl); (case hr => first | (go_simp; done) | (go_simp; rfl)); (case hp => exact (Reps.one (show Kd.M (Kd.int .u8) _ _ _ ((Go.bits .or .i64 224 ((wrap64 (Int.tmod (IntKind.u64.wrap (a0)) 1114112)) / 4096)) % 256) [.int .u8 ((Go.bits .or .i64 224 ((wrap64 (Int.tmod (IntKind.u64.wrap (a0)) 1114112)) / 4096)) % 256)] from rfl) (Reps.one (show Kd.M (Kd.int .u8) _ _ _ ((Go.bits .or .i64 128 (Go.bits .and .i64 ((wrap64 (Int.tmod (IntKind.u64.wrap (a0)) 1114112)) / 64) 63)) % 256) [.int .u8 ((Go.bits .or .i64 128 (Go.bits .and .i64 ((wrap64 (Int.tmod (IntKind.u64.wrap (a0)) 1114112)) / 64) 63)) % 256)] from rfl) (Reps.one (show Kd.M (Kd.int .u8) _ _ _ ((Go.bits .or .i64 128 (Go.bits .and .i64 (wrap64 (Int.tmod (IntKind.u64.wrap (a0)) 1114112)) 63)) % 256) [.int .u8 ((Go.bits .or .i64 128 (Go.bits .and .i64 (wrap64 (Int.tmod (IntKind.u64.wrap (a0)) 1114112)) 63)) % 256)] from rfl) (Reps.none _ _))))); intro v137 w20 ho21 hb hg_ hnew_; clear hg_ hnew_; (first | rw [← Ny136.out] at ho21 | (simp only [Int.reduceToNat] at ho21; rw [← Ny136.out] at ho21)); have n0_ := Aside0.mk (Kd.R_elder' (by (with_reducible repeat (first | apply Kd.R_alloc | apply Kd.R_drewN | apply Kd.R_drew)); exact HO132.out) (Kd.R_base ho21) hb); have n1_ := Aside0.mk (Kd.R_lower (Kd.R_new' ho21 (Kd.R_lt (by (with_reducible repeat (first | apply Kd.R_alloc | apply Kd.R_drewN | apply Kd.R_drew)); exact HO132.out))) (below_size (by repeat (first | (with_reducible first | exact HB.out | apply below_alloc | apply pw_below_drewN | apply below_drew1) | exact HB.out)))); have n2_ := Aside0.mk (below_step (by repeat (first | (with_reducible first | exact HB.out | apply below_alloc | apply pw_below_drewN | apply below_drew1) | exact HB.out)) hb); clear HO132; clear HB; have HO132 := n0_; have HO138 := n1_; have HB := n2_; clear n0_ n1_ n2_; clear hb ho21; have hcv22 := own_string (P := Try.prog) Try.underlying33 Try.underlying5 Try.underlying9 (Kd.own_of_R HO138.out)))
                go_meet
                case rel => exact ⟨_, (strOfNums y136), (3), (by first | rfl | (simp; done) | (simp [*]; done)), (by first | rfl | (simp; done) | (simp [*]; done)), H', ⟨by have := HJ3.out; first | omega | exact Nat.le_refl _⟩, ⟨by repeat (first | (with_reducible first | exact HB.out | apply below_alloc | apply pw_below_drewN | apply below_drew1) | exact HB.out)⟩⟩
              · rw [if_neg c19] at H
                have c19b0 : decide (2048 ≤ (wrap64 (Int.tmod (IntKind.u64.wrap (a0)) 1114112))) = false := decide_eq_false c19
                clear c19
                by_cases c23 : (wrap64 (Int.tmod (IntKind.u64.wrap (a0)) 1114112)) ≥ 128
                · rw [if_pos c23] at H
                  have c23b0 : decide (128 ≤ (wrap64 (Int.tmod (IntKind.u64.wrap (a0)) 1114112))) = true := decide_eq_true c23
                  clear c23
                  obtain ⟨y139, hy139⟩ : ∃ y_ : List Int, y_ = (([(Go.bits .or .i64 192 ((wrap64 (Int.tmod (IntKind.u64.wrap (a0)) 1114112)) / 64)) % 256, (Go.bits .or .i64 128 (Go.bits .and .i64 (wrap64 (Int.tmod (IntKind.u64.wrap (a0)) 1114112)) 63)) % 256] : List Int)) := ⟨_, rfl⟩
                  replace H : (trammellaw1_SourceSigns.j1 kj3 (strOfNums y139) 2) = some r := by first | (rw [hy139]; with_reducible exact H) | (have H2_ := (Option.bind_some _ _).symm.trans H; rw [hy139]; with_reducible exact H2_) | (have H2_ := (Option.bind_some _ _).symm.trans H; with_reducible exact H2_) | with_reducible exact H | (rw [hy139]; exact H) | exact H
                  have Ny139 := Aside0.mk hy139
                  clear hy139
                  have H' := Aside0.mk H
                  clear H
                  go_wp2_with (first | ((with_reducible refine gate_dst (N := 102) rfl ?_); refine Kd.R_lit (Kd.int .u8) _ 5 ?hg (N := 102) ?hd (xs := ([(Go.bits .or .i64 192 ((wrap64 (Int.tmod (IntKind.u64.wrap (a0)) 1114112)) / 64)) % 256, (Go.bits .or .i64 128 (Go.bits .and .i64 (wrap64 (Int.tmod (IntKind.u64.wrap (a0)) 1114112)) 63)) % 256] : List Int)) (inner := [.int .u8 ((Go.bits .or .i64 192 ((wrap64 (Int.tmod (IntKind.u64.wrap (a0)) 1114112)) / 64)) % 256), .int .u8 ((Go.bits .or .i64 128 (Go.bits .and .i64 (wrap64 (Int.tmod (IntKind.u64.wrap (a0)) 1114112)) 63)) % 256)]) (ok := fun _ => True) (okp := fun _ => True) ?hr ?hp (fun _ hk => hk) trivial (Below.refl _ _) (Nat.le_refl _) (by simp) ?_; (case hd => rfl); (case hg => rfl); (case hr => first | (go_simp; done) | (go_simp; rfl)); (case hp => exact (Reps.one (show Kd.M (Kd.int .u8) _ _ _ ((Go.bits .or .i64 192 ((wrap64 (Int.tmod (IntKind.u64.wrap (a0)) 1114112)) / 64)) % 256) [.int .u8 ((Go.bits .or .i64 192 ((wrap64 (Int.tmod (IntKind.u64.wrap (a0)) 1114112)) / 64)) % 256)] from rfl) (Reps.one (show Kd.M (Kd.int .u8) _ _ _ ((Go.bits .or .i64 128 (Go.bits .and .i64 (wrap64 (Int.tmod (IntKind.u64.wrap (a0)) 1114112)) 63)) % 256) [.int .u8 ((Go.bits .or .i64 128 (Go.bits .and .i64 (wrap64 (Int.tmod (IntKind.u64.wrap (a0)) 1114112)) 63)) % 256)] from rfl) (Reps.none _ _)))); intro v140 w24 ho25 hb hg_ hnew_; clear hg_ hnew_; (first | rw [← Ny139.out] at ho25 | (simp only [Int.reduceToNat] at ho25; rw [← Ny139.out] at ho25)); have n0_ := Aside0.mk (Kd.R_elder' (by (with_reducible repeat (first | apply Kd.R_alloc | apply Kd.R_drewN | apply Kd.R_drew)); exact HO132.out) (Kd.R_base ho25) hb); have n1_ := Aside0.mk (Kd.R_lower (Kd.R_new' ho25 (Kd.R_lt (by (with_reducible repeat (first | apply Kd.R_alloc | apply Kd.R_drewN | apply Kd.R_drew)); exact HO132.out))) (below_size (by repeat (first | (with_reducible first | exact HB.out | apply below_alloc | apply pw_below_drewN | apply below_drew1) | exact HB.out)))); have n2_ := Aside0.mk (below_step (by repeat (first | (with_reducible first | exact HB.out | apply below_alloc | apply pw_below_drewN | apply below_drew1) | exact HB.out)) hb); clear HO132; clear HB; have HO132 := n0_; have HO141 := n1_; have HB := n2_; clear n0_ n1_ n2_; clear hb ho25; have hcv26 := own_string (P := Try.prog) Try.underlying33 Try.underlying5 Try.underlying9 (Kd.own_of_R HO141.out)))
                  go_meet
                  case rel => exact ⟨_, (strOfNums y139), (2), (by first | rfl | (simp; done) | (simp [*]; done)), (by first | rfl | (simp; done) | (simp [*]; done)), H', ⟨by have := HJ3.out; first | omega | exact Nat.le_refl _⟩, ⟨by repeat (first | (with_reducible first | exact HB.out | apply below_alloc | apply pw_below_drewN | apply below_drew1) | exact HB.out)⟩⟩
                · rw [if_neg c23] at H
                  have c23b0 : decide (128 ≤ (wrap64 (Int.tmod (IntKind.u64.wrap (a0)) 1114112))) = false := decide_eq_false c23
                  clear c23
                  have H' := Aside0.mk H
                  clear H
                  go_wp2
                  go_meet
                  case rel => exact ⟨_, (strOfNums y130), (1), (by first | rfl | (simp; done) | (simp [*]; done)), (by first | rfl | (simp; done) | (simp [*]; done)), H', ⟨by have := HJ3.out; first | omega | exact Nat.le_refl _⟩, ⟨by repeat (first | (with_reducible first | exact HB.out | apply below_alloc | apply pw_below_drewN | apply below_drew1) | exact HB.out)⟩⟩
          case rest =>
            clear HC11
            try clear c1
            try clear hcv1
            try clear c2
            try clear p2
            try clear hcv2
            try clear c3
            try clear c5
            try clear c5b0
            try clear c6
            try clear p6
            try clear c8
            try clear hcv10
            try clear c13
            try clear hcv14
            try clear c15
            try clear c15b0
            try clear hcv18
            try clear c19
            try clear c19b0
            try clear hcv22
            try clear c23
            try clear c23b0
            try clear hcv26
            try clear p2
            obtain ⟨kq, x7_10, x8_10, rfl, rfl, HA, HJ10, HB⟩ := hcut
            cases kq with
            | zero => exact absurd HA.out (by simp [trammellaw1_SourceSigns.j1])
            | succ kj10 =>
              have H := HA.out
              clear HA
              simp only [trammellaw1_SourceSigns.j1] at H
              replace H := Option.bind_eq_some_iff.mp H
              obtain ⟨⟨t142, t143⟩, A270, H⟩ := H
              replace H : ((source_Width.f kj10 x7_10 0).bind fun bt144 => (if 0 ≤ (wrap64 (x8_10 - 1)) then (if (wrap64 (x8_10 - 1)) ≤ (x7_10.size : Int) then ((source_Valid.f kj10 (x7_10.extract 0 ((wrap64 (x8_10 - 1)) : Int).toNat)).bind fun bt146 => (if t143 = true then (if bt144.1 = x8_10 then ((trammellaw0_Num.f bt144.2).bind fun t148 => (if t148 = 0 then (if bt146.2 = true then (some true) else (some (decide (x8_10 > 1)))) else (some false))) else (some false)) else (some false))) else (none)) else (none))) = some r := H
              have A27 := Aside0.mk A270
              clear A270
              replace H := Option.bind_eq_some_iff.mp H
              obtain ⟨⟨t144, t145⟩, A280, H⟩ := H
              replace H : (if 0 ≤ (wrap64 (x8_10 - 1)) then (if (wrap64 (x8_10 - 1)) ≤ (x7_10.size : Int) then ((source_Valid.f kj10 (x7_10.extract 0 ((wrap64 (x8_10 - 1)) : Int).toNat)).bind fun bt146 => (if t143 = true then (if t144 = x8_10 then ((trammellaw0_Num.f t145).bind fun t148 => (if t148 = 0 then (if bt146.2 = true then (some true) else (some (decide (x8_10 > 1)))) else (some false))) else (some false)) else (some false))) else (none)) else (none)) = some r := H
              have A28 := Aside0.mk A280
              clear A280
              obtain ⟨ji29, hji29⟩ : ∃ j_ : Int, (wrap64 (x8_10 - 1)) = j_ := ⟨_, rfl⟩
              replace H : (if 0 ≤ (ji29) then (if (ji29) ≤ (x7_10.size : Int) then ((source_Valid.f kj10 (x7_10.extract 0 ((ji29) : Int).toNat)).bind fun bt146 => (if t143 = true then (if t144 = x8_10 then ((trammellaw0_Num.f t145).bind fun t148 => (if t148 = 0 then (if bt146.2 = true then (some true) else (some (decide (x8_10 > 1)))) else (some false))) else (some false)) else (some false))) else (none)) else (none)) = some r := by first | (rw [hji29] at H; exact H) | (simp only [hji29] at H ⊢; exact H)
              (try rw [hji29] at A27)
              (try rw [hji29] at A28)
              have hji29w : (IntKind.i64.wrap (x8_10 - 1)) = ji29 := (i64_w _).trans hji29
              by_cases c30 : 0 ≤ (ji29)
              · rw [if_pos c30] at H
                have c30b0 := eq_true c30
                have c30b1 : decide (0 ≤ (ji29)) = true := decide_eq_true c30
                clear c30
                by_cases c31 : (ji29) ≤ (x7_10.size : Int)
                · rw [if_pos c31] at H
                  have c31b0 := eq_true c31
                  have c31b1 : decide ((ji29) ≤ (x7_10.size : Int)) = true := decide_eq_true c31
                  clear c31
                  replace H := Option.bind_eq_some_iff.mp H
                  obtain ⟨⟨t146, t147⟩, A320, H⟩ := H
                  replace H : (if t143 = true then (if t144 = x8_10 then ((trammellaw0_Num.f t145).bind fun t148 => (if t148 = 0 then (if t147 = true then (some true) else (some (decide (x8_10 > 1)))) else (some false))) else (some false)) else (some false)) = some r := H
                  have A32 := Aside0.mk A320
                  clear A320
                  by_cases c33 : t143 = true
                  · subst c33
                    have H1 : (if t144 = x8_10 then ((trammellaw0_Num.f t145).bind fun t148 => (if t148 = 0 then (if t147 = true then (some true) else (some (decide (x8_10 > 1)))) else (some false))) else (some false)) = some r := by rw [if_pos rfl] at H; exact H
                    clear H
                    have H := H1
                    clear H1
                    by_cases c34 : t144 = x8_10
                    · rw [if_pos c34] at H
                      have c34b0 : (t144 == x8_10) = true := beq_iff_eq.mpr c34
                      have c34b1 : (t144 != x8_10) = false := bne_eq_false_iff_eq.mpr c34
                      clear c34
                      replace H := Option.bind_eq_some_iff.mp H
                      obtain ⟨t148, A350, H⟩ := H
                      replace H : (if t148 = 0 then (if t147 = true then (some true) else (some (decide (x8_10 > 1)))) else (some false)) = some r := H
                      have A35 := Aside0.mk A350
                      clear A350
                      by_cases c36 : t148 = 0
                      · rw [if_pos c36] at H
                        have c36b0 : (t148 == 0) = true := beq_iff_eq.mpr c36
                        have c36b1 : (t148 != 0) = false := bne_eq_false_iff_eq.mpr c36
                        clear c36
                        by_cases c37 : t147 = true
                        · subst c37
                          have H1 : (some true) = some r := by rw [if_pos rfl] at H; exact H
                          clear H
                          have H := H1
                          clear H1
                          obtain rfl := Option.some.inj H
                          go_wp2_with (first | ((with_reducible refine gate_callee (f := 8) rfl ?_); refine goesL_ (some 106) rfl rfl Try.func8 (by kernel_rfl) rfl #[.string x7_10] rfl (by (try simp only [List.map_toArray, List.map_cons, List.map_nil]); first | done | rfl | (simp only [List.length_drop, List.length_take]; rfl)) ?_; (with_reducible refine (source_Valid.calls kj10 x7_10 t142 true _ A27.out).mono ?_); rintro e w' ⟨rfl, ⟨nd, rfl⟩⟩; refine ⟨_, rfl, ?_⟩) | ((with_reducible refine gate_callee (f := 10) rfl ?_); refine goesL_ (some 111) rfl rfl Try.func10 (by kernel_rfl) rfl #[.string x7_10, .int .i64 0] rfl (by (try simp only [List.map_toArray, List.map_cons, List.map_nil]); first | done | rfl | (simp only [List.length_drop, List.length_take]; rfl)) ?_; (with_reducible refine (source_Width.calls kj10 x7_10 0 t144 t145 _ A28.out).mono ?_); rintro e w' ⟨rfl, ⟨nd, rfl⟩⟩; refine ⟨_, rfl, ?_⟩) | ((with_reducible refine gate_callee (f := 8) rfl ?_); refine goesL_ (some 119) rfl rfl Try.func8 (by kernel_rfl) rfl #[.string (x7_10.extract 0 ((ji29) : Int).toNat)] rfl (by (try simp only [List.map_toArray, List.map_cons, List.map_nil]); first | done | (simp only [hji29]; rfl) | rfl | (simp only [List.length_drop, List.length_take]; rfl)) ?_; (with_reducible refine (source_Valid.calls kj10 (x7_10.extract 0 ((ji29) : Int).toNat) t146 true _ A32.out).mono ?_); rintro e w' ⟨rfl, ⟨nd, rfl⟩⟩; refine ⟨_, rfl, ?_⟩) | (go_at_call 12; (with_reducible refine (trammellaw0_Num.calls t145 t148 _ A35.out).mono ?_); rintro e w' ⟨rfl, ⟨nd, rfl⟩⟩))
                          go_ret
                          exact ⟨by first | rfl | (simp [errW_none, errW_some] <;> rfl) | (simp only [← hji29]; first | rfl | (simp [errW_none, errW_some] <;> rfl)) | (simp [*, errW_none, errW_some] <;> rfl), by repeat (first | (with_reducible first | exact HB.out | apply below_alloc | apply pw_below_drewN | apply below_drew1) | exact HB.out)⟩
                        · replace c37 := Bool.eq_false_iff.mpr c37
                          subst c37
                          have H1 : (some (decide (x8_10 > 1))) = some r := by rw [if_neg (show ¬ (false = true) by decide)] at H; exact H
                          clear H
                          have H := H1
                          clear H1
                          obtain rfl := Option.some.inj H
                          go_wp2_with (first | ((with_reducible refine gate_callee (f := 8) rfl ?_); refine goesL_ (some 106) rfl rfl Try.func8 (by kernel_rfl) rfl #[.string x7_10] rfl (by (try simp only [List.map_toArray, List.map_cons, List.map_nil]); first | done | rfl | (simp only [List.length_drop, List.length_take]; rfl)) ?_; (with_reducible refine (source_Valid.calls kj10 x7_10 t142 true _ A27.out).mono ?_); rintro e w' ⟨rfl, ⟨nd, rfl⟩⟩; refine ⟨_, rfl, ?_⟩) | ((with_reducible refine gate_callee (f := 10) rfl ?_); refine goesL_ (some 111) rfl rfl Try.func10 (by kernel_rfl) rfl #[.string x7_10, .int .i64 0] rfl (by (try simp only [List.map_toArray, List.map_cons, List.map_nil]); first | done | rfl | (simp only [List.length_drop, List.length_take]; rfl)) ?_; (with_reducible refine (source_Width.calls kj10 x7_10 0 t144 t145 _ A28.out).mono ?_); rintro e w' ⟨rfl, ⟨nd, rfl⟩⟩; refine ⟨_, rfl, ?_⟩) | ((with_reducible refine gate_callee (f := 8) rfl ?_); refine goesL_ (some 119) rfl rfl Try.func8 (by kernel_rfl) rfl #[.string (x7_10.extract 0 ((ji29) : Int).toNat)] rfl (by (try simp only [List.map_toArray, List.map_cons, List.map_nil]); first | done | (simp only [hji29]; rfl) | rfl | (simp only [List.length_drop, List.length_take]; rfl)) ?_; (with_reducible refine (source_Valid.calls kj10 (x7_10.extract 0 ((ji29) : Int).toNat) t146 false _ A32.out).mono ?_); rintro e w' ⟨rfl, ⟨nd, rfl⟩⟩; refine ⟨_, rfl, ?_⟩) | (go_at_call 12; (with_reducible refine (trammellaw0_Num.calls t145 t148 _ A35.out).mono ?_); rintro e w' ⟨rfl, ⟨nd, rfl⟩⟩))
                          go_ret
                          exact ⟨by first | rfl | (simp [errW_none, errW_some] <;> rfl) | (simp only [← hji29]; first | rfl | (simp [errW_none, errW_some] <;> rfl)) | (simp [*, errW_none, errW_some] <;> rfl), by repeat (first | (with_reducible first | exact HB.out | apply below_alloc | apply pw_below_drewN | apply below_drew1) | exact HB.out)⟩
                      · rw [if_neg c36] at H
                        have c36b0 : (t148 == 0) = false := beq_eq_false_iff_ne.mpr c36
                        have c36b1 : (t148 != 0) = true := bne_iff_ne.mpr c36
                        obtain rfl := Option.some.inj H
                        go_wp2_with (first | ((with_reducible refine gate_callee (f := 8) rfl ?_); refine goesL_ (some 106) rfl rfl Try.func8 (by kernel_rfl) rfl #[.string x7_10] rfl (by (try simp only [List.map_toArray, List.map_cons, List.map_nil]); first | done | rfl | (simp only [List.length_drop, List.length_take]; rfl)) ?_; (with_reducible refine (source_Valid.calls kj10 x7_10 t142 true _ A27.out).mono ?_); rintro e w' ⟨rfl, ⟨nd, rfl⟩⟩; refine ⟨_, rfl, ?_⟩) | ((with_reducible refine gate_callee (f := 10) rfl ?_); refine goesL_ (some 111) rfl rfl Try.func10 (by kernel_rfl) rfl #[.string x7_10, .int .i64 0] rfl (by (try simp only [List.map_toArray, List.map_cons, List.map_nil]); first | done | rfl | (simp only [List.length_drop, List.length_take]; rfl)) ?_; (with_reducible refine (source_Width.calls kj10 x7_10 0 t144 t145 _ A28.out).mono ?_); rintro e w' ⟨rfl, ⟨nd, rfl⟩⟩; refine ⟨_, rfl, ?_⟩) | ((with_reducible refine gate_callee (f := 8) rfl ?_); refine goesL_ (some 119) rfl rfl Try.func8 (by kernel_rfl) rfl #[.string (x7_10.extract 0 ((ji29) : Int).toNat)] rfl (by (try simp only [List.map_toArray, List.map_cons, List.map_nil]); first | done | (simp only [hji29]; rfl) | rfl | (simp only [List.length_drop, List.length_take]; rfl)) ?_; (with_reducible refine (source_Valid.calls kj10 (x7_10.extract 0 ((ji29) : Int).toNat) t146 t147 _ A32.out).mono ?_); rintro e w' ⟨rfl, ⟨nd, rfl⟩⟩; refine ⟨_, rfl, ?_⟩) | (go_at_call 12; (with_reducible refine (trammellaw0_Num.calls t145 t148 _ A35.out).mono ?_); rintro e w' ⟨rfl, ⟨nd, rfl⟩⟩))
                        go_ret
                        exact ⟨by first | rfl | (simp [errW_none, errW_some] <;> rfl) | (simp only [← hji29]; first | rfl | (simp [errW_none, errW_some] <;> rfl)) | (simp [*, errW_none, errW_some] <;> rfl), by repeat (first | (with_reducible first | exact HB.out | apply below_alloc | apply pw_below_drewN | apply below_drew1) | exact HB.out)⟩
                    · rw [if_neg c34] at H
                      have c34b0 : (t144 == x8_10) = false := beq_eq_false_iff_ne.mpr c34
                      have c34b1 : (t144 != x8_10) = true := bne_iff_ne.mpr c34
                      obtain rfl := Option.some.inj H
                      go_wp2_with (first | ((with_reducible refine gate_callee (f := 8) rfl ?_); refine goesL_ (some 106) rfl rfl Try.func8 (by kernel_rfl) rfl #[.string x7_10] rfl (by (try simp only [List.map_toArray, List.map_cons, List.map_nil]); first | done | rfl | (simp only [List.length_drop, List.length_take]; rfl)) ?_; (with_reducible refine (source_Valid.calls kj10 x7_10 t142 true _ A27.out).mono ?_); rintro e w' ⟨rfl, ⟨nd, rfl⟩⟩; refine ⟨_, rfl, ?_⟩) | ((with_reducible refine gate_callee (f := 10) rfl ?_); refine goesL_ (some 111) rfl rfl Try.func10 (by kernel_rfl) rfl #[.string x7_10, .int .i64 0] rfl (by (try simp only [List.map_toArray, List.map_cons, List.map_nil]); first | done | rfl | (simp only [List.length_drop, List.length_take]; rfl)) ?_; (with_reducible refine (source_Width.calls kj10 x7_10 0 t144 t145 _ A28.out).mono ?_); rintro e w' ⟨rfl, ⟨nd, rfl⟩⟩; refine ⟨_, rfl, ?_⟩) | ((with_reducible refine gate_callee (f := 8) rfl ?_); refine goesL_ (some 119) rfl rfl Try.func8 (by kernel_rfl) rfl #[.string (x7_10.extract 0 ((ji29) : Int).toNat)] rfl (by (try simp only [List.map_toArray, List.map_cons, List.map_nil]); first | done | (simp only [hji29]; rfl) | rfl | (simp only [List.length_drop, List.length_take]; rfl)) ?_; (with_reducible refine (source_Valid.calls kj10 (x7_10.extract 0 ((ji29) : Int).toNat) t146 t147 _ A32.out).mono ?_); rintro e w' ⟨rfl, ⟨nd, rfl⟩⟩; refine ⟨_, rfl, ?_⟩))
                      go_ret
                      exact ⟨by first | rfl | (simp [errW_none, errW_some] <;> rfl) | (simp only [← hji29]; first | rfl | (simp [errW_none, errW_some] <;> rfl)) | (simp [*, errW_none, errW_some] <;> rfl), by repeat (first | (with_reducible first | exact HB.out | apply below_alloc | apply pw_below_drewN | apply below_drew1) | exact HB.out)⟩
                  · replace c33 := Bool.eq_false_iff.mpr c33
                    subst c33
                    have H1 : (some false) = some r := by rw [if_neg (show ¬ (false = true) by decide)] at H; exact H
                    clear H
                    have H := H1
                    clear H1
                    obtain rfl := Option.some.inj H
                    go_wp2_with (first | ((with_reducible refine gate_callee (f := 8) rfl ?_); refine goesL_ (some 106) rfl rfl Try.func8 (by kernel_rfl) rfl #[.string x7_10] rfl (by (try simp only [List.map_toArray, List.map_cons, List.map_nil]); first | done | rfl | (simp only [List.length_drop, List.length_take]; rfl)) ?_; (with_reducible refine (source_Valid.calls kj10 x7_10 t142 false _ A27.out).mono ?_); rintro e w' ⟨rfl, ⟨nd, rfl⟩⟩; refine ⟨_, rfl, ?_⟩) | ((with_reducible refine gate_callee (f := 10) rfl ?_); refine goesL_ (some 111) rfl rfl Try.func10 (by kernel_rfl) rfl #[.string x7_10, .int .i64 0] rfl (by (try simp only [List.map_toArray, List.map_cons, List.map_nil]); first | done | rfl | (simp only [List.length_drop, List.length_take]; rfl)) ?_; (with_reducible refine (source_Width.calls kj10 x7_10 0 t144 t145 _ A28.out).mono ?_); rintro e w' ⟨rfl, ⟨nd, rfl⟩⟩; refine ⟨_, rfl, ?_⟩) | ((with_reducible refine gate_callee (f := 8) rfl ?_); refine goesL_ (some 119) rfl rfl Try.func8 (by kernel_rfl) rfl #[.string (x7_10.extract 0 ((ji29) : Int).toNat)] rfl (by (try simp only [List.map_toArray, List.map_cons, List.map_nil]); first | done | (simp only [hji29]; rfl) | rfl | (simp only [List.length_drop, List.length_take]; rfl)) ?_; (with_reducible refine (source_Valid.calls kj10 (x7_10.extract 0 ((ji29) : Int).toNat) t146 t147 _ A32.out).mono ?_); rintro e w' ⟨rfl, ⟨nd, rfl⟩⟩; refine ⟨_, rfl, ?_⟩))
                    go_ret
                    exact ⟨by first | rfl | (simp [errW_none, errW_some] <;> rfl) | (simp only [← hji29]; first | rfl | (simp [errW_none, errW_some] <;> rfl)) | (simp [*, errW_none, errW_some] <;> rfl), by repeat (first | (with_reducible first | exact HB.out | apply below_alloc | apply pw_below_drewN | apply below_drew1) | exact HB.out)⟩
                · rw [if_neg c31] at H
                  exact absurd H (by simp)
              · rw [if_neg c30] at H
                exact absurd H (by simp)
  · replace c3 := Bool.eq_false_iff.mpr c3
    subst c3
    have H1 : (some false) = some r := by rw [if_neg (show ¬ (false = true) by decide)] at H; exact H
    clear H
    have H := H1
    clear H1
    obtain rfl := Option.some.inj H
    go_enter Try.func5, Try.ntmps5
    go_wp2_with (first | ((with_reducible refine gate_callee (f := 13) rfl ?_); refine goesL_ (some 15) rfl rfl Try.func13 (by kernel_rfl) rfl #[] rfl (by (try simp only [List.map_toArray, List.map_cons, List.map_nil]); first | done | rfl | (simp only [List.length_drop, List.length_take]; rfl)) ?_; (with_reducible refine (trammellaw1_awake.calls k  false _ A2.out).mono ?_); rintro e w' ⟨rfl, ⟨nd, rfl⟩⟩; refine ⟨_, rfl, ?_⟩))
    go_ret
    exact ⟨by first | rfl | (simp [errW_none, errW_some] <;> rfl) | (simp [*, errW_none, errW_some] <;> rfl), by repeat (first | (with_reducible first | exact HB.out | apply below_alloc | apply pw_below_drewN | apply below_drew1) | exact HB.out)⟩

/-- THE ONE PURE STATEMENT of trammellaw1_SourceSigns: yours. -/
def trammellaw1_SourceSigns.Pure : Prop := ∀ (a0 : Int), (Lit.int .i64 a0).wf = true → ∃ k, trammellaw1_SourceSigns.f k a0 = some true
theorem trammellaw1_SourceSigns.walk (P : trammellaw1_SourceSigns.Pure) (a0 : Int) (w : World) (w0 : (Lit.int .i64 a0).wf = true) :
    Calls Try.prog 5 #[.int .i64 a0] w fun e w' => e = .returned (.bool true) ∧ Below w.heap.size w w' := by
  obtain ⟨k, h⟩ := P a0 w0
  refine (trammellaw1_SourceSigns.calls k a0 true w h).mono ?_
  rintro e w' ⟨rfl, hd⟩
  exact ⟨rfl, hd⟩

end Go.Proofs.Ytppajbkfkhehdaa.PSourceSigns
