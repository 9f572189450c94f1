-- PRINTED BY print.sh 35421559b90ae4d0a3588c463048766b98c2df88dd9212a6774a882060cdf62d: not written by this session
import Derived.Test.YtebfhfahkigdlaaPEpochExactx0
import Derived.Test.YtebfhfahkigdlaaPEpochExactx1
namespace Go.Proofs.Ytebfhfahkigdlaa.PEpochExact
open Go.RowKit Go.Proofs.YtebfhfahkigdlaaW.PrintWords Go.Proofs.YtebfhfahkigdlaaW.PrintLast Go.Proofs.YtebfhfahkigdlaaW.PrintMore
attribute [local go_sem] max2_int min2_int max_two min_two max_three min_three max_four min_four   -- for this text's walks alone
set_option linter.unusedVariables false
set_option linter.unusedSimpArgs false

/-! ### bellwetherlaw14_EpochExact: function 3 -/
mutual
def bellwetherlaw14_EpochExact.j0 : Nat → Int → Int → Int → Int → Option (Bool)
  | 0, _, _, _, _ => none
  | k + 1, x1, x2, x9, x10 => (bellwetherref01_IsNode.f x1).bind fun t122 => (if t122 = true then (if x2 < 0 then (bellwetherlaw14_EpochExact.j1 k x1 x2 x9 x10 true) else (bellwetherlaw14_EpochExact.j1 k x1 x2 x9 x10 (decide (x2 > 1073741824)))) else (bellwetherlaw14_EpochExact.j1 k x1 x2 x9 x10 true))
def bellwetherlaw14_EpochExact.j1 : Nat → Int → Int → Int → Int → Bool → Option (Bool)
  | 0, _, _, _, _, _ => none
  | k + 1, x1, x2, x9, x10, x59 => if x59 = true then (if x10 = 1 then (if x9 = 0 then ((bellwetherlaw14_wakes.f k).bind fun t123 => (some t123)) else (some false)) else (some false)) else ((bellwetherref10_NextEpoch.f x1 x2).bind fun t124 => (if t124 = 0 then (if x10 = 11 then (if x9 = 0 then ((bellwetherlaw14_wakes.f k).bind fun t125 => (some t125)) else (some false)) else (some false)) else (if x10 = 0 then (if x9 = t124 then ((bellwetherlaw14_wakes.f k).bind fun t126 => (some t126)) else (some false)) else (some false))))
end
def bellwetherlaw14_EpochExact.f (k : Nat) (a0 : Int) (a1 : Int) (a2 : Int) : Option (Bool) := (epoch_Who.f a0).bind fun bt115 => ((epoch_Next.f k a1 a2).bind fun bt117 => ((bellwetherref10_Epoch.f a0).bind fun t119 => (if t119 = true then ((epoch_Check.f a0).bind fun t120 => (if t120 = 0 then (if bt115.2 = 0 then (if bt115.1 = (Int.tmod a0 16) then (bellwetherlaw14_EpochExact.j0 k a1 a2 bt117.1 bt117.2) else (some false)) else (some false)) else (some false))) else ((epoch_Check.f a0).bind fun t121 => (if t121 = 1 then (if bt115.2 = 1 then (if bt115.1 = 0 then (bellwetherlaw14_EpochExact.j0 k a1 a2 bt117.1 bt117.2) else (some false)) else (some false)) else (some false))))))
theorem bellwetherlaw14_EpochExact.mono_l : ∀ k, (∀ y0 y1 y2 y3, LeO (bellwetherlaw14_EpochExact.j0 k y0 y1 y2 y3) (bellwetherlaw14_EpochExact.j0 (k + 1) y0 y1 y2 y3)) ∧ (∀ y0 y1 y2 y3 y4, LeO (bellwetherlaw14_EpochExact.j1 k y0 y1 y2 y3 y4) (bellwetherlaw14_EpochExact.j1 (k + 1) y0 y1 y2 y3 y4))
  | 0 => ⟨fun _ _ _ _ r h => by simp [bellwetherlaw14_EpochExact.j0] at h, fun _ _ _ _ _ r h => by simp [bellwetherlaw14_EpochExact.j1] at h⟩
  | k + 1 => by
    obtain ⟨ih0, ih1⟩ := bellwetherlaw14_EpochExact.mono_l k
    refine ⟨?_, ?_⟩
    · intro y0 y1 y2 y3
      unfold bellwetherlaw14_EpochExact.j0
      repeat' first
      | (with_reducible exact ih0 _ _ _ _)
      | (with_reducible exact ih1 _ _ _ _ _)
      | (with_reducible exact bellwetherlaw14_wakes.mono _)
      | (with_reducible exact epoch_Next.mono _ _ _)
      | (with_reducible exact LeO.refl _)
      | (with_reducible exact LeO.none _)
      | (with_reducible refine LeO.ite ?_ ?_)
      | (with_reducible refine LeO.bind ?_ (fun _ => ?_))
      | exact ih0 _ _ _ _
      | exact ih1 _ _ _ _ _
      | exact bellwetherlaw14_wakes.mono _
      | exact epoch_Next.mono _ _ _
      | exact LeO.none _
      | refine LeO.ite ?_ ?_
      | refine LeO.bind ?_ (fun _ => ?_)
    · intro y0 y1 y2 y3 y4
      unfold bellwetherlaw14_EpochExact.j1
      repeat' first
      | (with_reducible exact ih0 _ _ _ _)
      | (with_reducible exact ih1 _ _ _ _ _)
      | (with_reducible exact bellwetherlaw14_wakes.mono _)
      | (with_reducible exact epoch_Next.mono _ _ _)
      | (with_reducible exact LeO.refl _)
      | (with_reducible exact LeO.none _)
      | (with_reducible refine LeO.ite ?_ ?_)
      | (with_reducible refine LeO.bind ?_ (fun _ => ?_))
      | exact ih0 _ _ _ _
      | exact ih1 _ _ _ _ _
      | exact bellwetherlaw14_wakes.mono _
      | exact epoch_Next.mono _ _ _
      | exact LeO.none _
      | refine LeO.ite ?_ ?_
      | refine LeO.bind ?_ (fun _ => ?_)
theorem bellwetherlaw14_EpochExact.mono : ∀ a0 a1 a2 k, LeO (bellwetherlaw14_EpochExact.f k a0 a1 a2) (bellwetherlaw14_EpochExact.f (k + 1) a0 a1 a2) := by
  intro a0 a1 a2 k
  obtain ⟨ih0, ih1⟩ := bellwetherlaw14_EpochExact.mono_l k
  unfold bellwetherlaw14_EpochExact.f
  repeat' first
      | (with_reducible exact ih0 _ _ _ _)
      | (with_reducible exact ih1 _ _ _ _ _)
      | (with_reducible exact bellwetherlaw14_wakes.mono _)
      | (with_reducible exact epoch_Next.mono _ _ _)
      | (with_reducible exact LeO.refl _)
      | (with_reducible exact LeO.none _)
      | (with_reducible refine LeO.ite ?_ ?_)
      | (with_reducible refine LeO.bind ?_ (fun _ => ?_))
      | exact ih0 _ _ _ _
      | exact ih1 _ _ _ _ _
      | exact bellwetherlaw14_wakes.mono _
      | exact epoch_Next.mono _ _ _
      | exact LeO.none _
      | refine LeO.ite ?_ ?_
      | refine LeO.bind ?_ (fun _ => ?_)
set_option maxHeartbeats 8000000 in
set_option maxRecDepth 100000 in
theorem bellwetherlaw14_EpochExact.calls (k : Nat) (a0 : Int) (a1 : Int) (a2 : Int) (r : Bool) (w : World) (h : bellwetherlaw14_EpochExact.f k a0 a1 a2 = some r) :
    Calls Try.prog 3 #[.int .i64 a0, .int .i64 a1, .int .i64 a2] w fun e w' => e = .returned (.bool r) ∧ Drawn0 w w' := by
  have H : ((epoch_Who.f a0).bind fun bt115 => ((epoch_Next.f k a1 a2).bind fun bt117 => ((bellwetherref10_Epoch.f a0).bind fun t119 => (if t119 = true then ((epoch_Check.f a0).bind fun t120 => (if t120 = 0 then (if bt115.2 = 0 then (if bt115.1 = (Int.tmod a0 16) then (bellwetherlaw14_EpochExact.j0 k a1 a2 bt117.1 bt117.2) else (some false)) else (some false)) else (some false))) else ((epoch_Check.f a0).bind fun t121 => (if t121 = 1 then (if bt115.2 = 1 then (if bt115.1 = 0 then (bellwetherlaw14_EpochExact.j0 k a1 a2 bt117.1 bt117.2) else (some false)) else (some false)) else (some false))))))) = some r := h
  clear h
  replace H := Option.bind_eq_some_iff.mp H
  obtain ⟨⟨t115, t116⟩, A40, H⟩ := H
  replace H : ((epoch_Next.f k a1 a2).bind fun bt117 => ((bellwetherref10_Epoch.f a0).bind fun t119 => (if t119 = true then ((epoch_Check.f a0).bind fun t120 => (if t120 = 0 then (if t116 = 0 then (if t115 = (Int.tmod a0 16) then (bellwetherlaw14_EpochExact.j0 k a1 a2 bt117.1 bt117.2) else (some false)) else (some false)) else (some false))) else ((epoch_Check.f a0).bind fun t121 => (if t121 = 1 then (if t116 = 1 then (if t115 = 0 then (bellwetherlaw14_EpochExact.j0 k a1 a2 bt117.1 bt117.2) else (some false)) else (some false)) else (some false)))))) = some r := H
  have A4 := Aside0.mk A40
  clear A40
  replace H := Option.bind_eq_some_iff.mp H
  obtain ⟨⟨t117, t118⟩, A50, H⟩ := H
  replace H : ((bellwetherref10_Epoch.f a0).bind fun t119 => (if t119 = true then ((epoch_Check.f a0).bind fun t120 => (if t120 = 0 then (if t116 = 0 then (if t115 = (Int.tmod a0 16) then (bellwetherlaw14_EpochExact.j0 k a1 a2 t117 t118) else (some false)) else (some false)) else (some false))) else ((epoch_Check.f a0).bind fun t121 => (if t121 = 1 then (if t116 = 1 then (if t115 = 0 then (bellwetherlaw14_EpochExact.j0 k a1 a2 t117 t118) else (some false)) else (some false)) else (some false))))) = some r := H
  have A5 := Aside0.mk A50
  clear A50
  replace H := Option.bind_eq_some_iff.mp H
  obtain ⟨t119, A60, H⟩ := H
  replace H : (if t119 = true then ((epoch_Check.f a0).bind fun t120 => (if t120 = 0 then (if t116 = 0 then (if t115 = (Int.tmod a0 16) then (bellwetherlaw14_EpochExact.j0 k a1 a2 t117 t118) else (some false)) else (some false)) else (some false))) else ((epoch_Check.f a0).bind fun t121 => (if t121 = 1 then (if t116 = 1 then (if t115 = 0 then (bellwetherlaw14_EpochExact.j0 k a1 a2 t117 t118) else (some false)) else (some false)) else (some false)))) = some r := H
  have A6 := Aside0.mk A60
  clear A60
  have HC7 := Aside0.mk H
  clear H
  go_enter Try.func3, Try.ntmps3
  go_upto_if 24 with (first | ((with_reducible refine gate_callee (f := 12) rfl ?_); refine goesL_ (some 14) rfl rfl Try.func12 (by kernel_rfl) rfl #[.int .i64 a0] rfl (by (try simp only [List.map_toArray, List.map_cons, List.map_nil]); first | done | rfl | (simp only [List.length_drop, List.length_take]; rfl)) ?_; (with_reducible refine (epoch_Who.calls a0 t115 t116 _ A4.out).mono ?_); rintro e w' ⟨rfl, ⟨nd, rfl⟩⟩; refine ⟨_, rfl, ?_⟩) | ((with_reducible refine gate_callee (f := 13) rfl ?_); refine goesL_ (some 20) rfl rfl Try.func13 (by kernel_rfl) rfl #[.int .i64 a1, .int .i64 a2] rfl (by (try simp only [List.map_toArray, List.map_cons, List.map_nil]); first | done | rfl | (simp only [List.length_drop, List.length_take]; rfl)) ?_; (with_reducible refine (epoch_Next.calls k a1 a2 t117 t118 _ A5.out).mono ?_); rintro e w' ⟨rfl, ⟨nd, rfl⟩⟩; refine ⟨_, rfl, ?_⟩) | ((with_reducible refine gate_callee (f := 14) rfl ?_); refine goesL_ (some 24) rfl rfl Try.func14 (by kernel_rfl) rfl #[.int .i64 a0] rfl (by (try simp only [List.map_toArray, List.map_cons, List.map_nil]); first | done | rfl | (simp only [List.length_drop, List.length_take]; rfl)) ?_; (with_reducible refine (bellwetherref10_Epoch.calls a0 t119 _ A6.out).mono ?_); rintro e w' ⟨rfl, ⟨nd, rfl⟩⟩; refine ⟨_, rfl, ?_⟩))
  (try simp only [Act.put, List.setIfInBounds_toArray, List.set_cons_zero, List.set_cons_succ])
  go_cut [] (fun wc => ∃ (kq : Nat), Aside0 (bellwetherlaw14_EpochExact.j0 kq a1 a2 t117 t118 = some r) ∧ Aside0 (kq ≤ k) ∧ Drawn0 w wc)
  case first =>
    have H := HC7.out
    clear HC7
    by_cases c8 : t119 = true
    · subst c8
      have H1 : ((epoch_Check.f a0).bind fun t120 => (if t120 = 0 then (if t116 = 0 then (if t115 = (Int.tmod a0 16) then (bellwetherlaw14_EpochExact.j0 k a1 a2 t117 t118) else (some false)) else (some false)) else (some false))) = some r := by rw [if_pos rfl] at H; exact H
      clear H
      have H := H1
      clear H1
      replace H := Option.bind_eq_some_iff.mp H
      obtain ⟨t120, A90, H⟩ := H
      replace H : (if t120 = 0 then (if t116 = 0 then (if t115 = (Int.tmod a0 16) then (bellwetherlaw14_EpochExact.j0 k a1 a2 t117 t118) else (some false)) else (some false)) else (some false)) = some r := H
      have A9 := Aside0.mk A90
      clear A90
      by_cases c10 : t120 = 0
      · rw [if_pos c10] at H
        have c10b0 : (t120 == 0) = true := beq_iff_eq.mpr c10
        have c10b1 : (t120 != 0) = false := bne_eq_false_iff_eq.mpr c10
        clear c10
        (first | rw [c10b0] | (simp only [i64_w, i32_w]; rw [c10b0]) | skip)
        by_cases c11 : t116 = 0
        · rw [if_pos c11] at H
          have c11b0 : (t116 == 0) = true := beq_iff_eq.mpr c11
          have c11b1 : (t116 != 0) = false := bne_eq_false_iff_eq.mpr c11
          clear c11
          by_cases c12 : t115 = (Int.tmod a0 16)
          · rw [if_pos c12] at H
            have c12b0 : (t115 == (Int.tmod a0 16)) = true := beq_iff_eq.mpr c12
            have c12b1 : (t115 != (Int.tmod a0 16)) = false := bne_eq_false_iff_eq.mpr c12
            clear c12
            have H' := Aside0.mk H
            clear H
            go_wp2_with (first | ((with_reducible refine gate_callee (f := 15) rfl ?_); refine goesL_ (some 26) rfl rfl Try.func15 (by kernel_rfl) rfl #[.int .i64 a0] rfl (by (try simp only [List.map_toArray, List.map_cons, List.map_nil]); first | done | rfl | (simp only [List.length_drop, List.length_take]; rfl)) ?_; (with_reducible refine (epoch_Check.calls a0 t120 _ A9.out).mono ?_); rintro e w' ⟨rfl, ⟨nd, rfl⟩⟩; refine ⟨_, rfl, ?_⟩))
            go_meet
            case rel => exact ⟨_, H', ⟨by first | omega | exact Nat.le_refl _⟩, by repeat (first | exact Drawn0.refl _ | apply Drawn0.step)⟩
          · rw [if_neg c12] at H
            have c12b0 : (t115 == (Int.tmod a0 16)) = false := beq_eq_false_iff_ne.mpr c12
            have c12b1 : (t115 != (Int.tmod a0 16)) = true := bne_iff_ne.mpr c12
            obtain rfl := Option.some.inj H
            go_wp2_with (first | ((with_reducible refine gate_callee (f := 15) rfl ?_); refine goesL_ (some 26) rfl rfl Try.func15 (by kernel_rfl) rfl #[.int .i64 a0] rfl (by (try simp only [List.map_toArray, List.map_cons, List.map_nil]); first | done | rfl | (simp only [List.length_drop, List.length_take]; rfl)) ?_; (with_reducible refine (epoch_Check.calls a0 t120 _ A9.out).mono ?_); rintro e w' ⟨rfl, ⟨nd, rfl⟩⟩; refine ⟨_, rfl, ?_⟩))
            go_ret
            exact ⟨by first | rfl | (simp; done) | (simp [*]; done), by repeat (first | exact Drawn0.refl _ | apply Drawn0.step)⟩
        · rw [if_neg c11] at H
          have c11b0 : (t116 == 0) = false := beq_eq_false_iff_ne.mpr c11
          have c11b1 : (t116 != 0) = true := bne_iff_ne.mpr c11
          obtain rfl := Option.some.inj H
          go_wp2_with (first | ((with_reducible refine gate_callee (f := 15) rfl ?_); refine goesL_ (some 26) rfl rfl Try.func15 (by kernel_rfl) rfl #[.int .i64 a0] rfl (by (try simp only [List.map_toArray, List.map_cons, List.map_nil]); first | done | rfl | (simp only [List.length_drop, List.length_take]; rfl)) ?_; (with_reducible refine (epoch_Check.calls a0 t120 _ A9.out).mono ?_); rintro e w' ⟨rfl, ⟨nd, rfl⟩⟩; refine ⟨_, rfl, ?_⟩))
          go_ret
          exact ⟨by first | rfl | (simp; done) | (simp [*]; done), by repeat (first | exact Drawn0.refl _ | apply Drawn0.step)⟩
      · rw [if_neg c10] at H
        have c10b0 : (t120 == 0) = false := beq_eq_false_iff_ne.mpr c10
        have c10b1 : (t120 != 0) = true := bne_iff_ne.mpr c10
        (first | rw [c10b0] | (simp only [i64_w, i32_w]; rw [c10b0]) | skip)
        obtain rfl := Option.some.inj H
        go_wp2_with (first | ((with_reducible refine gate_callee (f := 15) rfl ?_); refine goesL_ (some 26) rfl rfl Try.func15 (by kernel_rfl) rfl #[.int .i64 a0] rfl (by (try simp only [List.map_toArray, List.map_cons, List.map_nil]); first | done | rfl | (simp only [List.length_drop, List.length_take]; rfl)) ?_; (with_reducible refine (epoch_Check.calls a0 t120 _ A9.out).mono ?_); rintro e w' ⟨rfl, ⟨nd, rfl⟩⟩; refine ⟨_, rfl, ?_⟩))
        go_ret
        exact ⟨by first | rfl | (simp; done) | (simp [*]; done), by repeat (first | exact Drawn0.refl _ | apply Drawn0.step)⟩
    · replace c8 := Bool.eq_false_iff.mpr c8
      subst c8
      have H1 : ((epoch_Check.f a0).bind fun t121 => (if t121 = 1 then (if t116 = 1 then (if t115 = 0 then (bellwetherlaw14_EpochExact.j0 k a1 a2 t117 t118) else (some false)) else (some false)) else (some false))) = some r := by rw [if_neg (show ¬ (false = true) by decide)] at H; exact H
      clear H
      have H := H1
      clear H1
      replace H := Option.bind_eq_some_iff.mp H
      obtain ⟨t121, A130, H⟩ := H
      replace H : (if t121 = 1 then (if t116 = 1 then (if t115 = 0 then (bellwetherlaw14_EpochExact.j0 k a1 a2 t117 t118) else (some false)) else (some false)) else (some false)) = some r := H
      have A13 := Aside0.mk A130
      clear A130
      by_cases c14 : t121 = 1
      · rw [if_pos c14] at H
        have c14b0 : (t121 == 1) = true := beq_iff_eq.mpr c14
        have c14b1 : (t121 != 1) = false := bne_eq_false_iff_eq.mpr c14
        clear c14
        by_cases c15 : t116 = 1
        · rw [if_pos c15] at H
          have c15b0 : (t116 == 1) = true := beq_iff_eq.mpr c15
          have c15b1 : (t116 != 1) = false := bne_eq_false_iff_eq.mpr c15
          clear c15
          by_cases c16 : t115 = 0
          · rw [if_pos c16] at H
            have c16b0 : (t115 == 0) = true := beq_iff_eq.mpr c16
            have c16b1 : (t115 != 0) = false := bne_eq_false_iff_eq.mpr c16
            clear c16
            have H' := Aside0.mk H
            clear H
            go_wp2_with (first | ((with_reducible refine gate_callee (f := 15) rfl ?_); refine goesL_ (some 39) rfl rfl Try.func15 (by kernel_rfl) rfl #[.int .i64 a0] rfl (by (try simp only [List.map_toArray, List.map_cons, List.map_nil]); first | done | rfl | (simp only [List.length_drop, List.length_take]; rfl)) ?_; (with_reducible refine (epoch_Check.calls a0 t121 _ A13.out).mono ?_); rintro e w' ⟨rfl, ⟨nd, rfl⟩⟩; refine ⟨_, rfl, ?_⟩))
            go_meet
            case rel => exact ⟨_, H', ⟨by first | omega | exact Nat.le_refl _⟩, by repeat (first | exact Drawn0.refl _ | apply Drawn0.step)⟩
          · rw [if_neg c16] at H
            have c16b0 : (t115 == 0) = false := beq_eq_false_iff_ne.mpr c16
            have c16b1 : (t115 != 0) = true := bne_iff_ne.mpr c16
            obtain rfl := Option.some.inj H
            go_wp2_with (first | ((with_reducible refine gate_callee (f := 15) rfl ?_); refine goesL_ (some 39) rfl rfl Try.func15 (by kernel_rfl) rfl #[.int .i64 a0] rfl (by (try simp only [List.map_toArray, List.map_cons, List.map_nil]); first | done | rfl | (simp only [List.length_drop, List.length_take]; rfl)) ?_; (with_reducible refine (epoch_Check.calls a0 t121 _ A13.out).mono ?_); rintro e w' ⟨rfl, ⟨nd, rfl⟩⟩; refine ⟨_, rfl, ?_⟩))
            go_ret
            exact ⟨by first | rfl | (simp; done) | (simp [*]; done), by repeat (first | exact Drawn0.refl _ | apply Drawn0.step)⟩
        · rw [if_neg c15] at H
          have c15b0 : (t116 == 1) = false := beq_eq_false_iff_ne.mpr c15
          have c15b1 : (t116 != 1) = true := bne_iff_ne.mpr c15
          obtain rfl := Option.some.inj H
          go_wp2_with (first | ((with_reducible refine gate_callee (f := 15) rfl ?_); refine goesL_ (some 39) rfl rfl Try.func15 (by kernel_rfl) rfl #[.int .i64 a0] rfl (by (try simp only [List.map_toArray, List.map_cons, List.map_nil]); first | done | rfl | (simp only [List.length_drop, List.length_take]; rfl)) ?_; (with_reducible refine (epoch_Check.calls a0 t121 _ A13.out).mono ?_); rintro e w' ⟨rfl, ⟨nd, rfl⟩⟩; refine ⟨_, rfl, ?_⟩))
          go_ret
          exact ⟨by first | rfl | (simp; done) | (simp [*]; done), by repeat (first | exact Drawn0.refl _ | apply Drawn0.step)⟩
      · rw [if_neg c14] at H
        have c14b0 : (t121 == 1) = false := beq_eq_false_iff_ne.mpr c14
        have c14b1 : (t121 != 1) = true := bne_iff_ne.mpr c14
        obtain rfl := Option.some.inj H
        go_wp2_with (first | ((with_reducible refine gate_callee (f := 15) rfl ?_); refine goesL_ (some 39) rfl rfl Try.func15 (by kernel_rfl) rfl #[.int .i64 a0] rfl (by (try simp only [List.map_toArray, List.map_cons, List.map_nil]); first | done | rfl | (simp only [List.length_drop, List.length_take]; rfl)) ?_; (with_reducible refine (epoch_Check.calls a0 t121 _ A13.out).mono ?_); rintro e w' ⟨rfl, ⟨nd, rfl⟩⟩; refine ⟨_, rfl, ?_⟩))
        go_ret
        exact ⟨by first | rfl | (simp; done) | (simp [*]; done), by repeat (first | exact Drawn0.refl _ | apply Drawn0.step)⟩
  case rest =>
    clear HC7
    try clear c1
    try clear p2
    try clear c3
    try clear c8
    try clear c10
    try clear c10b0
    try clear c10b1
    try clear c11
    try clear c11b0
    try clear c11b1
    try clear c12
    try clear c12b0
    try clear c12b1
    try clear c13
    try clear c14
    try clear c14b0
    try clear c14b1
    try clear c15
    try clear c15b0
    try clear c15b1
    try clear c16
    try clear c16b0
    try clear c16b1
    obtain ⟨kq, HA, HJ6, ⟨mc6, rfl⟩⟩ := hcut
    cases kq with
    | zero => exact absurd HA.out (by simp [bellwetherlaw14_EpochExact.j0])
    | succ kj6 =>
      have H := HA.out
      clear HA
      simp only [bellwetherlaw14_EpochExact.j0] at H
      have HC17 := Aside0.mk H
      clear H
      go_upto_region 8 with (fail)
      go_cut [59] (fun v59 wc => ∃ (kq : Nat) (x59_16 : Bool), v59 = .bool x59_16 ∧ Aside0 (bellwetherlaw14_EpochExact.j1 kq a1 a2 t117 t118 x59_16 = some r) ∧ Aside0 (kq ≤ kj6) ∧ Drawn0 w wc)
      case first =>
        have H := HC17.out
        clear HC17
        replace H := Option.bind_eq_some_iff.mp H
        obtain ⟨t122, A180, H⟩ := H
        replace H : (if t122 = true then (if a2 < 0 then (bellwetherlaw14_EpochExact.j1 kj6 a1 a2 t117 t118 true) else (bellwetherlaw14_EpochExact.j1 kj6 a1 a2 t117 t118 (decide (a2 > 1073741824)))) else (bellwetherlaw14_EpochExact.j1 kj6 a1 a2 t117 t118 true)) = some r := H
        have A18 := Aside0.mk A180
        clear A180
        by_cases c19 : t122 = true
        · subst c19
          have H1 : (if a2 < 0 then (bellwetherlaw14_EpochExact.j1 kj6 a1 a2 t117 t118 true) else (bellwetherlaw14_EpochExact.j1 kj6 a1 a2 t117 t118 (decide (a2 > 1073741824)))) = some r := by rw [if_pos rfl] at H; exact H
          clear H
          have H := H1
          clear H1
          by_cases c20 : a2 < 0
          · rw [if_pos c20] at H
            have c20b0 : decide (a2 < 0) = true := decide_eq_true c20
            clear c20
            (first | rw [c20b0] | (simp only [i64_w, i32_w]; rw [c20b0]) | skip)
            have H' := Aside0.mk H
            clear H
            go_wp2_with (first | ((with_reducible refine gate_callee (f := 16) rfl ?_); refine goesL_ (some 50) rfl rfl Try.func16 (by kernel_rfl) rfl #[.int .i64 a1] rfl (by (try simp only [List.map_toArray, List.map_cons, List.map_nil]); first | done | rfl | (simp only [List.length_drop, List.length_take]; rfl)) ?_; (with_reducible refine (bellwetherref01_IsNode.calls a1 true _ A18.out).mono ?_); rintro e w' ⟨rfl, ⟨nd, rfl⟩⟩; refine ⟨_, rfl, ?_⟩))
            go_meet
            case rel => exact ⟨_, (true), (by first | rfl | (simp; done) | (simp [*]; done)), H', ⟨by have := HJ6.out; first | omega | exact Nat.le_refl _⟩, by repeat (first | exact Drawn0.refl _ | apply Drawn0.step)⟩
          · rw [if_neg c20] at H
            have c20b0 : decide (a2 < 0) = false := decide_eq_false c20
            clear c20
            (first | rw [c20b0] | (simp only [i64_w, i32_w]; rw [c20b0]) | skip)
            have H' := Aside0.mk H
            clear H
            go_wp2_with (first | ((with_reducible refine gate_callee (f := 16) rfl ?_); refine goesL_ (some 50) rfl rfl Try.func16 (by kernel_rfl) rfl #[.int .i64 a1] rfl (by (try simp only [List.map_toArray, List.map_cons, List.map_nil]); first | done | rfl | (simp only [List.length_drop, List.length_take]; rfl)) ?_; (with_reducible refine (bellwetherref01_IsNode.calls a1 true _ A18.out).mono ?_); rintro e w' ⟨rfl, ⟨nd, rfl⟩⟩; refine ⟨_, rfl, ?_⟩))
            go_meet
            case rel => exact ⟨_, (decide (a2 > 1073741824)), (by first | rfl | (simp; done) | (simp [*]; done)), H', ⟨by have := HJ6.out; first | omega | exact Nat.le_refl _⟩, by repeat (first | exact Drawn0.refl _ | apply Drawn0.step)⟩
        · replace c19 := Bool.eq_false_iff.mpr c19
          subst c19
          have H1 : (bellwetherlaw14_EpochExact.j1 kj6 a1 a2 t117 t118 true) = some r := by rw [if_neg (show ¬ (false = true) by decide)] at H; exact H
          clear H
          have H := H1
          clear H1
          have H' := Aside0.mk H
          clear H
          go_wp2_with (first | ((with_reducible refine gate_callee (f := 16) rfl ?_); refine goesL_ (some 50) rfl rfl Try.func16 (by kernel_rfl) rfl #[.int .i64 a1] rfl (by (try simp only [List.map_toArray, List.map_cons, List.map_nil]); first | done | rfl | (simp only [List.length_drop, List.length_take]; rfl)) ?_; (with_reducible refine (bellwetherref01_IsNode.calls a1 false _ A18.out).mono ?_); rintro e w' ⟨rfl, ⟨nd, rfl⟩⟩; refine ⟨_, rfl, ?_⟩))
          go_meet
          case rel => exact ⟨_, (true), (by first | rfl | (simp; done) | (simp [*]; done)), H', ⟨by have := HJ6.out; first | omega | exact Nat.le_refl _⟩, by repeat (first | exact Drawn0.refl _ | apply Drawn0.step)⟩
      case rest =>
        clear HC17
        try clear c1
        try clear c2
        try clear p2
        try clear c3
        try clear c6
        try clear c8
        try clear c10
        try clear c10b0
        try clear c10b1
        try clear c11
        try clear c11b0
        try clear c11b1
        try clear c12
        try clear c12b0
        try clear c12b1
        try clear c13
        try clear c14
        try clear c14b0
        try clear c14b1
        try clear c15
        try clear c15b0
        try clear c15b1
        try clear c16
        try clear c16b0
        try clear c16b1
        try clear c19
        try clear c20
        try clear c20b0
        try clear p2
        obtain ⟨kq, x59_16, rfl, HA, HJ16, ⟨mc16, rfl⟩⟩ := hcut
        cases kq with
        | zero => exact absurd HA.out (by simp [bellwetherlaw14_EpochExact.j1])
        | succ kj16 =>
          have H := HA.out
          clear HA
          simp only [bellwetherlaw14_EpochExact.j1] at H
          by_cases c21 : x59_16 = true
          · subst c21
            have H1 : (if t118 = 1 then (if t117 = 0 then ((bellwetherlaw14_wakes.f kj16).bind fun t123 => (some t123)) else (some false)) else (some false)) = some r := by rw [if_pos rfl] at H; exact H
            clear H
            have H := H1
            clear H1
            by_cases c22 : t118 = 1
            · rw [if_pos c22] at H
              have c22b0 : (t118 == 1) = true := beq_iff_eq.mpr c22
              have c22b1 : (t118 != 1) = false := bne_eq_false_iff_eq.mpr c22
              clear c22
              by_cases c23 : t117 = 0
              · rw [if_pos c23] at H
                have c23b0 : (t117 == 0) = true := beq_iff_eq.mpr c23
                have c23b1 : (t117 != 0) = false := bne_eq_false_iff_eq.mpr c23
                clear c23
                replace H := Option.bind_eq_some_iff.mp H
                obtain ⟨t123, A240, H⟩ := H
                replace H : (some t123) = some r := H
                have A24 := Aside0.mk A240
                clear A240
                obtain rfl := Option.some.inj H
                go_wp2_with (first | (go_at_call 17; (with_reducible refine (bellwetherlaw14_wakes.calls kj16  t123 _ A24.out).mono ?_); rintro e w' ⟨rfl, ⟨nd, rfl⟩⟩))
                go_ret
                exact ⟨by first | rfl | (simp; done) | (simp [*]; done), by repeat (first | exact Drawn0.refl _ | apply Drawn0.step)⟩
              · rw [if_neg c23] at H
                have c23b0 : (t117 == 0) = false := beq_eq_false_iff_ne.mpr c23
                have c23b1 : (t117 != 0) = true := bne_iff_ne.mpr c23
                obtain rfl := Option.some.inj H
                go_wp2
                go_ret
                exact ⟨by first | rfl | (simp; done) | (simp [*]; done), by repeat (first | exact Drawn0.refl _ | apply Drawn0.step)⟩
            · rw [if_neg c22] at H
              have c22b0 : (t118 == 1) = false := beq_eq_false_iff_ne.mpr c22
              have c22b1 : (t118 != 1) = true := bne_iff_ne.mpr c22
              obtain rfl := Option.some.inj H
              go_wp2
              go_ret
              exact ⟨by first | rfl | (simp; done) | (simp [*]; done), by repeat (first | exact Drawn0.refl _ | apply Drawn0.step)⟩
          · replace c21 := Bool.eq_false_iff.mpr c21
            subst c21
            have H1 : ((bellwetherref10_NextEpoch.f a1 a2).bind fun t124 => (if t124 = 0 then (if t118 = 11 then (if t117 = 0 then ((bellwetherlaw14_wakes.f kj16).bind fun t125 => (some t125)) else (some false)) else (some false)) else (if t118 = 0 then (if t117 = t124 then ((bellwetherlaw14_wakes.f kj16).bind fun t126 => (some t126)) else (some false)) else (some false)))) = some r := by rw [if_neg (show ¬ (false = true) by decide)] at H; exact H
            clear H
            have H := H1
            clear H1
            replace H := Option.bind_eq_some_iff.mp H
            obtain ⟨t124, A250, H⟩ := H
            replace H : (if t124 = 0 then (if t118 = 11 then (if t117 = 0 then ((bellwetherlaw14_wakes.f kj16).bind fun t125 => (some t125)) else (some false)) else (some false)) else (if t118 = 0 then (if t117 = t124 then ((bellwetherlaw14_wakes.f kj16).bind fun t126 => (some t126)) else (some false)) else (some false))) = some r := H
            have A25 := Aside0.mk A250
            clear A250
            by_cases c26 : t124 = 0
            · rw [if_pos c26] at H
              have c26b0 : (t124 == 0) = true := beq_iff_eq.mpr c26
              have c26b1 : (t124 != 0) = false := bne_eq_false_iff_eq.mpr c26
              clear c26
              by_cases c27 : t118 = 11
              · rw [if_pos c27] at H
                have c27b0 : (t118 == 11) = true := beq_iff_eq.mpr c27
                have c27b1 : (t118 != 11) = false := bne_eq_false_iff_eq.mpr c27
                clear c27
                by_cases c28 : t117 = 0
                · rw [if_pos c28] at H
                  have c28b0 : (t117 == 0) = true := beq_iff_eq.mpr c28
                  have c28b1 : (t117 != 0) = false := bne_eq_false_iff_eq.mpr c28
                  clear c28
                  replace H := Option.bind_eq_some_iff.mp H
                  obtain ⟨t125, A290, H⟩ := H
                  replace H : (some t125) = some r := H
                  have A29 := Aside0.mk A290
                  clear A290
                  obtain rfl := Option.some.inj H
                  go_wp2_with (first | ((with_reducible refine gate_callee (f := 18) rfl ?_); refine goesL_ (some 71) rfl rfl Try.func18 (by kernel_rfl) rfl #[.int .i64 a1, .int .i64 a2] rfl (by (try simp only [List.map_toArray, List.map_cons, List.map_nil]); first | done | rfl | (simp only [List.length_drop, List.length_take]; rfl)) ?_; (with_reducible refine (bellwetherref10_NextEpoch.calls a1 a2 t124 _ A25.out).mono ?_); rintro e w' ⟨rfl, ⟨nd, rfl⟩⟩; refine ⟨_, rfl, ?_⟩) | (go_at_call 17; (with_reducible refine (bellwetherlaw14_wakes.calls kj16  t125 _ A29.out).mono ?_); rintro e w' ⟨rfl, ⟨nd, rfl⟩⟩))
                  go_ret
                  exact ⟨by first | rfl | (simp; done) | (simp [*]; done), by repeat (first | exact Drawn0.refl _ | apply Drawn0.step)⟩
                · rw [if_neg c28] at H
                  have c28b0 : (t117 == 0) = false := beq_eq_false_iff_ne.mpr c28
                  have c28b1 : (t117 != 0) = true := bne_iff_ne.mpr c28
                  obtain rfl := Option.some.inj H
                  go_wp2_with (first | ((with_reducible refine gate_callee (f := 18) rfl ?_); refine goesL_ (some 71) rfl rfl Try.func18 (by kernel_rfl) rfl #[.int .i64 a1, .int .i64 a2] rfl (by (try simp only [List.map_toArray, List.map_cons, List.map_nil]); first | done | rfl | (simp only [List.length_drop, List.length_take]; rfl)) ?_; (with_reducible refine (bellwetherref10_NextEpoch.calls a1 a2 t124 _ A25.out).mono ?_); rintro e w' ⟨rfl, ⟨nd, rfl⟩⟩; refine ⟨_, rfl, ?_⟩))
                  go_ret
                  exact ⟨by first | rfl | (simp; done) | (simp [*]; done), by repeat (first | exact Drawn0.refl _ | apply Drawn0.step)⟩
              · rw [if_neg c27] at H
                have c27b0 : (t118 == 11) = false := beq_eq_false_iff_ne.mpr c27
                have c27b1 : (t118 != 11) = true := bne_iff_ne.mpr c27
                obtain rfl := Option.some.inj H
                go_wp2_with (first | ((with_reducible refine gate_callee (f := 18) rfl ?_); refine goesL_ (some 71) rfl rfl Try.func18 (by kernel_rfl) rfl #[.int .i64 a1, .int .i64 a2] rfl (by (try simp only [List.map_toArray, List.map_cons, List.map_nil]); first | done | rfl | (simp only [List.length_drop, List.length_take]; rfl)) ?_; (with_reducible refine (bellwetherref10_NextEpoch.calls a1 a2 t124 _ A25.out).mono ?_); rintro e w' ⟨rfl, ⟨nd, rfl⟩⟩; refine ⟨_, rfl, ?_⟩))
                go_ret
                exact ⟨by first | rfl | (simp; done) | (simp [*]; done), by repeat (first | exact Drawn0.refl _ | apply Drawn0.step)⟩
            · rw [if_neg c26] at H
              have c26b0 : (t124 == 0) = false := beq_eq_false_iff_ne.mpr c26
              have c26b1 : (t124 != 0) = true := bne_iff_ne.mpr c26
              by_cases c30 : t118 = 0
              · rw [if_pos c30] at H
                have c30b0 : (t118 == 0) = true := beq_iff_eq.mpr c30
                have c30b1 : (t118 != 0) = false := bne_eq_false_iff_eq.mpr c30
                clear c30
                by_cases c31 : t117 = t124
                · rw [if_pos c31] at H
                  have c31b0 : (t117 == t124) = true := beq_iff_eq.mpr c31
                  have c31b1 : (t117 != t124) = false := bne_eq_false_iff_eq.mpr c31
                  clear c31
                  replace H := Option.bind_eq_some_iff.mp H
                  obtain ⟨t126, A320, H⟩ := H
                  replace H : (some t126) = some r := H
                  have A32 := Aside0.mk A320
                  clear A320
                  obtain rfl := Option.some.inj H
                  go_wp2_with (first | ((with_reducible refine gate_callee (f := 18) rfl ?_); refine goesL_ (some 71) rfl rfl Try.func18 (by kernel_rfl) rfl #[.int .i64 a1, .int .i64 a2] rfl (by (try simp only [List.map_toArray, List.map_cons, List.map_nil]); first | done | rfl | (simp only [List.length_drop, List.length_take]; rfl)) ?_; (with_reducible refine (bellwetherref10_NextEpoch.calls a1 a2 t124 _ A25.out).mono ?_); rintro e w' ⟨rfl, ⟨nd, rfl⟩⟩; refine ⟨_, rfl, ?_⟩) | (go_at_call 17; (with_reducible refine (bellwetherlaw14_wakes.calls kj16  t126 _ A32.out).mono ?_); rintro e w' ⟨rfl, ⟨nd, rfl⟩⟩))
                  go_ret
                  exact ⟨by first | rfl | (simp; done) | (simp [*]; done), by repeat (first | exact Drawn0.refl _ | apply Drawn0.step)⟩
                · rw [if_neg c31] at H
                  have c31b0 : (t117 == t124) = false := beq_eq_false_iff_ne.mpr c31
                  have c31b1 : (t117 != t124) = true := bne_iff_ne.mpr c31
                  obtain rfl := Option.some.inj H
                  go_wp2_with (first | ((with_reducible refine gate_callee (f := 18) rfl ?_); refine goesL_ (some 71) rfl rfl Try.func18 (by kernel_rfl) rfl #[.int .i64 a1, .int .i64 a2] rfl (by (try simp only [List.map_toArray, List.map_cons, List.map_nil]); first | done | rfl | (simp only [List.length_drop, List.length_take]; rfl)) ?_; (with_reducible refine (bellwetherref10_NextEpoch.calls a1 a2 t124 _ A25.out).mono ?_); rintro e w' ⟨rfl, ⟨nd, rfl⟩⟩; refine ⟨_, rfl, ?_⟩))
                  go_ret
                  exact ⟨by first | rfl | (simp; done) | (simp [*]; done), by repeat (first | exact Drawn0.refl _ | apply Drawn0.step)⟩
              · rw [if_neg c30] at H
                have c30b0 : (t118 == 0) = false := beq_eq_false_iff_ne.mpr c30
                have c30b1 : (t118 != 0) = true := bne_iff_ne.mpr c30
                obtain rfl := Option.some.inj H
                go_wp2_with (first | ((with_reducible refine gate_callee (f := 18) rfl ?_); refine goesL_ (some 71) rfl rfl Try.func18 (by kernel_rfl) rfl #[.int .i64 a1, .int .i64 a2] rfl (by (try simp only [List.map_toArray, List.map_cons, List.map_nil]); first | done | rfl | (simp only [List.length_drop, List.length_take]; rfl)) ?_; (with_reducible refine (bellwetherref10_NextEpoch.calls a1 a2 t124 _ A25.out).mono ?_); rintro e w' ⟨rfl, ⟨nd, rfl⟩⟩; refine ⟨_, rfl, ?_⟩))
                go_ret
                exact ⟨by first | rfl | (simp; done) | (simp [*]; done), by repeat (first | exact Drawn0.refl _ | apply Drawn0.step)⟩

/-- THE ONE PURE STATEMENT of bellwetherlaw14_EpochExact: yours. -/
def bellwetherlaw14_EpochExact.Pure : Prop := ∀ (a0 : Int) (a1 : Int) (a2 : Int), (Lit.int .i64 a0).wf = true → (Lit.int .i64 a1).wf = true → (Lit.int .i64 a2).wf = true → ∃ k, bellwetherlaw14_EpochExact.f k a0 a1 a2 = some true
theorem bellwetherlaw14_EpochExact.walk (P : bellwetherlaw14_EpochExact.Pure) (a0 : Int) (a1 : Int) (a2 : Int) (w : World) (w0 : (Lit.int .i64 a0).wf = true) (w1 : (Lit.int .i64 a1).wf = true) (w2 : (Lit.int .i64 a2).wf = true) :
    Calls Try.prog 3 #[.int .i64 a0, .int .i64 a1, .int .i64 a2] w fun e w' => e = .returned (.bool true) ∧ Below w.heap.size w w' := by
  obtain ⟨k, h⟩ := P a0 a1 a2 w0 w1 w2
  refine (bellwetherlaw14_EpochExact.calls k a0 a1 a2 true w h).mono ?_
  rintro e w' ⟨rfl, hd⟩
  exact ⟨rfl, hd.below⟩

end Go.Proofs.Ytebfhfahkigdlaa.PEpochExact
