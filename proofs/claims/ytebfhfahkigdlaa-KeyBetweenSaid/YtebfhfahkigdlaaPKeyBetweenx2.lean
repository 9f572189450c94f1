-- PRINTED BY print.sh 35421559b90ae4d0a3588c463048766b98c2df88dd9212a6774a882060cdf62d: not written by this session
import Derived.Test.YtebfhfahkigdlaaPKeyBetweenx0
import Derived.Test.YtebfhfahkigdlaaPKeyBetweenx1
namespace Go.Proofs.Ytebfhfahkigdlaa.PKeyBetween
open Go.RowKit Go.Proofs.YtebfhfahkigdlaaW.PrintWords Go.Proofs.YtebfhfahkigdlaaW.PrintLast Go.Proofs.YtebfhfahkigdlaaW.PrintMore
attribute [local go_sem] max2_int min2_int max_two min_two max_three min_three max_four min_four   -- for this text's walks alone
set_option linter.unusedVariables false
set_option linter.unusedSimpArgs false

/-! ### bellwetherlaw02_KeyBetween: function 8 -/
mutual
def bellwetherlaw02_KeyBetween.j0 : Nat → Int → Int → Int → Bool → Option (Bool)
  | 0, _, _, _, _ => none
  | k + 1, x0, x1, x2, x35 => if x35 = true then (some false) else (if x0 = x1 then (bellwetherlaw02_KeyBetween.j1 k x0 x1 x2 true) else (if x1 = x2 then (bellwetherlaw02_KeyBetween.j1 k x0 x1 x2 true) else (bellwetherlaw02_KeyBetween.j1 k x0 x1 x2 (x0 == x2))))
def bellwetherlaw02_KeyBetween.j1 : Nat → Int → Int → Int → Bool → Option (Bool)
  | 0, _, _, _, _ => none
  | k + 1, x0, x1, x2, x48 => if x48 = true then ((bellwetherlaw02_wakes.f k).bind fun t125 => (some t125)) else ((key_Between.f k x0 x1 x2).bind fun t126 => ((key_Between.f k x2 x1 x0).bind fun t127 => (if (t126 != t127) = true then ((key_Between.f k x0 x1 x2).bind fun t128 => ((key_Between.f k x0 x2 x1).bind fun t129 => (if (t128 != t129) = true then ((bellwetherlaw02_wakes.f k).bind fun t130 => (some t130)) else (some false)))) else (some false))))
end
def bellwetherlaw02_KeyBetween.f (k : Nat) (a0 : Int) (a1 : Int) (a2 : Int) : Option (Bool) := (bellwetherlaw02_Some.f a0).bind fun t119 => ((bellwetherlaw02_Some.f a1).bind fun t120 => ((bellwetherlaw02_Some.f a2).bind fun t121 => ((key_Between.f k t119 t120 t119).bind fun t122 => (if t122 = true then (if t119 = t121 then (bellwetherlaw02_KeyBetween.j0 k t119 t120 t121 false) else ((key_Between.f k t119 t119 t121).bind fun t123 => (if t123 = true then (bellwetherlaw02_KeyBetween.j0 k t119 t120 t121 true) else ((key_Between.f k t119 t121 t121).bind fun t124 => (bellwetherlaw02_KeyBetween.j0 k t119 t120 t121 (!t124)))))) else (bellwetherlaw02_KeyBetween.j0 k t119 t120 t121 true)))))
theorem bellwetherlaw02_KeyBetween.mono_l : ∀ k, (∀ y0 y1 y2 y3, LeO (bellwetherlaw02_KeyBetween.j0 k y0 y1 y2 y3) (bellwetherlaw02_KeyBetween.j0 (k + 1) y0 y1 y2 y3)) ∧ (∀ y0 y1 y2 y3, LeO (bellwetherlaw02_KeyBetween.j1 k y0 y1 y2 y3) (bellwetherlaw02_KeyBetween.j1 (k + 1) y0 y1 y2 y3))
  | 0 => ⟨fun _ _ _ _ r h => by simp [bellwetherlaw02_KeyBetween.j0] at h, fun _ _ _ _ r h => by simp [bellwetherlaw02_KeyBetween.j1] at h⟩
  | k + 1 => by
    obtain ⟨ih0, ih1⟩ := bellwetherlaw02_KeyBetween.mono_l k
    refine ⟨?_, ?_⟩
    · intro y0 y1 y2 y3
      unfold bellwetherlaw02_KeyBetween.j0
      repeat' first
      | (with_reducible exact ih0 _ _ _ _)
      | (with_reducible exact ih1 _ _ _ _)
      | (with_reducible exact bellwetherlaw02_wakes.mono _)
      | (with_reducible exact key_Between.mono _ _ _ _)
      | (with_reducible exact LeO.refl _)
      | (with_reducible exact LeO.none _)
      | (with_reducible refine LeO.ite ?_ ?_)
      | (with_reducible refine LeO.bind ?_ (fun _ => ?_))
      | exact ih0 _ _ _ _
      | exact ih1 _ _ _ _
      | exact bellwetherlaw02_wakes.mono _
      | exact key_Between.mono _ _ _ _
      | exact LeO.none _
      | refine LeO.ite ?_ ?_
      | refine LeO.bind ?_ (fun _ => ?_)
    · intro y0 y1 y2 y3
      unfold bellwetherlaw02_KeyBetween.j1
      repeat' first
      | (with_reducible exact ih0 _ _ _ _)
      | (with_reducible exact ih1 _ _ _ _)
      | (with_reducible exact bellwetherlaw02_wakes.mono _)
      | (with_reducible exact key_Between.mono _ _ _ _)
      | (with_reducible exact LeO.refl _)
      | (with_reducible exact LeO.none _)
      | (with_reducible refine LeO.ite ?_ ?_)
      | (with_reducible refine LeO.bind ?_ (fun _ => ?_))
      | exact ih0 _ _ _ _
      | exact ih1 _ _ _ _
      | exact bellwetherlaw02_wakes.mono _
      | exact key_Between.mono _ _ _ _
      | exact LeO.none _
      | refine LeO.ite ?_ ?_
      | refine LeO.bind ?_ (fun _ => ?_)
theorem bellwetherlaw02_KeyBetween.mono : ∀ a0 a1 a2 k, LeO (bellwetherlaw02_KeyBetween.f k a0 a1 a2) (bellwetherlaw02_KeyBetween.f (k + 1) a0 a1 a2) := by
  intro a0 a1 a2 k
  obtain ⟨ih0, ih1⟩ := bellwetherlaw02_KeyBetween.mono_l k
  unfold bellwetherlaw02_KeyBetween.f
  repeat' first
      | (with_reducible exact ih0 _ _ _ _)
      | (with_reducible exact ih1 _ _ _ _)
      | (with_reducible exact bellwetherlaw02_wakes.mono _)
      | (with_reducible exact key_Between.mono _ _ _ _)
      | (with_reducible exact LeO.refl _)
      | (with_reducible exact LeO.none _)
      | (with_reducible refine LeO.ite ?_ ?_)
      | (with_reducible refine LeO.bind ?_ (fun _ => ?_))
      | exact ih0 _ _ _ _
      | exact ih1 _ _ _ _
      | exact bellwetherlaw02_wakes.mono _
      | exact key_Between.mono _ _ _ _
      | exact LeO.none _
      | refine LeO.ite ?_ ?_
      | refine LeO.bind ?_ (fun _ => ?_)
set_option maxHeartbeats 8000000 in
set_option maxRecDepth 100000 in
theorem bellwetherlaw02_KeyBetween.calls (k : Nat) (a0 : Int) (a1 : Int) (a2 : Int) (r : Bool) (w : World) (h : bellwetherlaw02_KeyBetween.f k a0 a1 a2 = some r) :
    Calls Try.prog 8 #[.int .i64 a0, .int .i64 a1, .int .i64 a2] w fun e w' => e = .returned (.bool r) ∧ Drawn0 w w' := by
  have H : ((bellwetherlaw02_Some.f a0).bind fun t119 => ((bellwetherlaw02_Some.f a1).bind fun t120 => ((bellwetherlaw02_Some.f a2).bind fun t121 => ((key_Between.f k t119 t120 t119).bind fun t122 => (if t122 = true then (if t119 = t121 then (bellwetherlaw02_KeyBetween.j0 k t119 t120 t121 false) else ((key_Between.f k t119 t119 t121).bind fun t123 => (if t123 = true then (bellwetherlaw02_KeyBetween.j0 k t119 t120 t121 true) else ((key_Between.f k t119 t121 t121).bind fun t124 => (bellwetherlaw02_KeyBetween.j0 k t119 t120 t121 (!t124)))))) else (bellwetherlaw02_KeyBetween.j0 k t119 t120 t121 true)))))) = some r := h
  clear h
  replace H := Option.bind_eq_some_iff.mp H
  obtain ⟨t119, A40, H⟩ := H
  replace H : ((bellwetherlaw02_Some.f a1).bind fun t120 => ((bellwetherlaw02_Some.f a2).bind fun t121 => ((key_Between.f k t119 t120 t119).bind fun t122 => (if t122 = true then (if t119 = t121 then (bellwetherlaw02_KeyBetween.j0 k t119 t120 t121 false) else ((key_Between.f k t119 t119 t121).bind fun t123 => (if t123 = true then (bellwetherlaw02_KeyBetween.j0 k t119 t120 t121 true) else ((key_Between.f k t119 t121 t121).bind fun t124 => (bellwetherlaw02_KeyBetween.j0 k t119 t120 t121 (!t124)))))) else (bellwetherlaw02_KeyBetween.j0 k t119 t120 t121 true))))) = some r := H
  have A4 := Aside0.mk A40
  clear A40
  replace H := Option.bind_eq_some_iff.mp H
  obtain ⟨t120, A50, H⟩ := H
  replace H : ((bellwetherlaw02_Some.f a2).bind fun t121 => ((key_Between.f k t119 t120 t119).bind fun t122 => (if t122 = true then (if t119 = t121 then (bellwetherlaw02_KeyBetween.j0 k t119 t120 t121 false) else ((key_Between.f k t119 t119 t121).bind fun t123 => (if t123 = true then (bellwetherlaw02_KeyBetween.j0 k t119 t120 t121 true) else ((key_Between.f k t119 t121 t121).bind fun t124 => (bellwetherlaw02_KeyBetween.j0 k t119 t120 t121 (!t124)))))) else (bellwetherlaw02_KeyBetween.j0 k t119 t120 t121 true)))) = some r := H
  have A5 := Aside0.mk A50
  clear A50
  replace H := Option.bind_eq_some_iff.mp H
  obtain ⟨t121, A60, H⟩ := H
  replace H : ((key_Between.f k t119 t120 t119).bind fun t122 => (if t122 = true then (if t119 = t121 then (bellwetherlaw02_KeyBetween.j0 k t119 t120 t121 false) else ((key_Between.f k t119 t119 t121).bind fun t123 => (if t123 = true then (bellwetherlaw02_KeyBetween.j0 k t119 t120 t121 true) else ((key_Between.f k t119 t121 t121).bind fun t124 => (bellwetherlaw02_KeyBetween.j0 k t119 t120 t121 (!t124)))))) else (bellwetherlaw02_KeyBetween.j0 k t119 t120 t121 true))) = some r := H
  have A6 := Aside0.mk A60
  clear A60
  have HC7 := Aside0.mk H
  clear H
  go_enter Try.func8, Try.ntmps8
  go_upto_region 2 with (first | ((with_reducible refine gate_callee (f := 27) rfl ?_); refine goesL_ (some 8) rfl rfl Try.func27 (by kernel_rfl) rfl #[.int .i64 a0] rfl (by (try simp only [List.map_toArray, List.map_cons, List.map_nil]); first | done | rfl | (simp only [List.length_drop, List.length_take]; rfl)) ?_; (with_reducible refine (bellwetherlaw02_Some.calls a0 t119 _ A4.out).mono ?_); rintro e w' ⟨rfl, ⟨nd, rfl⟩⟩; refine ⟨_, rfl, ?_⟩) | ((with_reducible refine gate_callee (f := 27) rfl ?_); refine goesL_ (some 10) rfl rfl Try.func27 (by kernel_rfl) rfl #[.int .i64 a1] rfl (by (try simp only [List.map_toArray, List.map_cons, List.map_nil]); first | done | rfl | (simp only [List.length_drop, List.length_take]; rfl)) ?_; (with_reducible refine (bellwetherlaw02_Some.calls a1 t120 _ A5.out).mono ?_); rintro e w' ⟨rfl, ⟨nd, rfl⟩⟩; refine ⟨_, rfl, ?_⟩) | ((with_reducible refine gate_callee (f := 27) rfl ?_); refine goesL_ (some 12) rfl rfl Try.func27 (by kernel_rfl) rfl #[.int .i64 a2] rfl (by (try simp only [List.map_toArray, List.map_cons, List.map_nil]); first | done | rfl | (simp only [List.length_drop, List.length_take]; rfl)) ?_; (with_reducible refine (bellwetherlaw02_Some.calls a2 t121 _ A6.out).mono ?_); rintro e w' ⟨rfl, ⟨nd, rfl⟩⟩; refine ⟨_, rfl, ?_⟩))
  (try simp only [Act.put, List.setIfInBounds_toArray, List.set_cons_zero, List.set_cons_succ])
  go_cut [35] (fun v35 wc => ∃ (kq : Nat) (x35_6 : Bool), v35 = .bool x35_6 ∧ Aside0 (bellwetherlaw02_KeyBetween.j0 kq t119 t120 t121 x35_6 = some r) ∧ Aside0 (kq ≤ k) ∧ Drawn0 w wc)
  case first =>
    have H := HC7.out
    clear HC7
    replace H := Option.bind_eq_some_iff.mp H
    obtain ⟨t122, A80, H⟩ := H
    replace H : (if t122 = true then (if t119 = t121 then (bellwetherlaw02_KeyBetween.j0 k t119 t120 t121 false) else ((key_Between.f k t119 t119 t121).bind fun t123 => (if t123 = true then (bellwetherlaw02_KeyBetween.j0 k t119 t120 t121 true) else ((key_Between.f k t119 t121 t121).bind fun t124 => (bellwetherlaw02_KeyBetween.j0 k t119 t120 t121 (!t124)))))) else (bellwetherlaw02_KeyBetween.j0 k t119 t120 t121 true)) = some r := H
    have A8 := Aside0.mk A80
    clear A80
    by_cases c9 : t122 = true
    · subst c9
      have H1 : (if t119 = t121 then (bellwetherlaw02_KeyBetween.j0 k t119 t120 t121 false) else ((key_Between.f k t119 t119 t121).bind fun t123 => (if t123 = true then (bellwetherlaw02_KeyBetween.j0 k t119 t120 t121 true) else ((key_Between.f k t119 t121 t121).bind fun t124 => (bellwetherlaw02_KeyBetween.j0 k t119 t120 t121 (!t124)))))) = some r := by rw [if_pos rfl] at H; exact H
      clear H
      have H := H1
      clear H1
      by_cases c10 : t119 = t121
      · rw [if_pos c10] at H
        have c10b0 : (t119 == t121) = true := beq_iff_eq.mpr c10
        have c10b1 : (t119 != t121) = false := bne_eq_false_iff_eq.mpr c10
        clear c10
        (first | rw [c10b0] | (simp only [i64_w, i32_w]; rw [c10b0]) | skip)
        have H' := Aside0.mk H
        clear H
        go_wp2_with (first | ((with_reducible refine gate_callee (f := 21) rfl ?_); refine goesL_ (some 16) rfl rfl Try.func21 (by kernel_rfl) rfl #[.int .i64 t119, .int .i64 t120, .int .i64 t119] rfl (by (try simp only [List.map_toArray, List.map_cons, List.map_nil]); first | done | rfl | (simp only [List.length_drop, List.length_take]; rfl)) ?_; (with_reducible refine (key_Between.calls k t119 t120 t119 true _ A8.out).mono ?_); rintro e w' ⟨rfl, ⟨nd, rfl⟩⟩; refine ⟨_, rfl, ?_⟩))
        go_meet
        case rel => exact ⟨_, (false), (by first | rfl | (simp; done) | (simp [*]; done)), H', ⟨by first | omega | exact Nat.le_refl _⟩, by repeat (first | exact Drawn0.refl _ | apply Drawn0.step)⟩
      · rw [if_neg c10] at H
        have c10b0 : (t119 == t121) = false := beq_eq_false_iff_ne.mpr c10
        have c10b1 : (t119 != t121) = true := bne_iff_ne.mpr c10
        (first | rw [c10b0] | (simp only [i64_w, i32_w]; rw [c10b0]) | skip)
        replace H := Option.bind_eq_some_iff.mp H
        obtain ⟨t123, A110, H⟩ := H
        replace H : (if t123 = true then (bellwetherlaw02_KeyBetween.j0 k t119 t120 t121 true) else ((key_Between.f k t119 t121 t121).bind fun t124 => (bellwetherlaw02_KeyBetween.j0 k t119 t120 t121 (!t124)))) = some r := H
        have A11 := Aside0.mk A110
        clear A110
        by_cases c12 : t123 = true
        · subst c12
          have H1 : (bellwetherlaw02_KeyBetween.j0 k t119 t120 t121 true) = some r := by rw [if_pos rfl] at H; exact H
          clear H
          have H := H1
          clear H1
          have H' := Aside0.mk H
          clear H
          go_wp2_with (first | ((with_reducible refine gate_callee (f := 21) rfl ?_); refine goesL_ (some 16) rfl rfl Try.func21 (by kernel_rfl) rfl #[.int .i64 t119, .int .i64 t120, .int .i64 t119] rfl (by (try simp only [List.map_toArray, List.map_cons, List.map_nil]); first | done | rfl | (simp only [List.length_drop, List.length_take]; rfl)) ?_; (with_reducible refine (key_Between.calls k t119 t120 t119 true _ A8.out).mono ?_); rintro e w' ⟨rfl, ⟨nd, rfl⟩⟩; refine ⟨_, rfl, ?_⟩) | (go_at_call 21; (with_reducible refine (key_Between.calls k t119 t119 t121 true _ A11.out).mono ?_); rintro e w' ⟨rfl, ⟨nd, rfl⟩⟩))
          go_meet
          case rel => exact ⟨_, (true), (by first | rfl | (simp; done) | (simp [*]; done)), H', ⟨by first | omega | exact Nat.le_refl _⟩, by repeat (first | exact Drawn0.refl _ | apply Drawn0.step)⟩
        · replace c12 := Bool.eq_false_iff.mpr c12
          subst c12
          have H1 : ((key_Between.f k t119 t121 t121).bind fun t124 => (bellwetherlaw02_KeyBetween.j0 k t119 t120 t121 (!t124))) = some r := by rw [if_neg (show ¬ (false = true) by decide)] at H; exact H
          clear H
          have H := H1
          clear H1
          replace H := Option.bind_eq_some_iff.mp H
          obtain ⟨t124, A130, H⟩ := H
          replace H : (bellwetherlaw02_KeyBetween.j0 k t119 t120 t121 (!t124)) = some r := H
          have A13 := Aside0.mk A130
          clear A130
          have H' := Aside0.mk H
          clear H
          go_wp2_with (first | ((with_reducible refine gate_callee (f := 21) rfl ?_); refine goesL_ (some 16) rfl rfl Try.func21 (by kernel_rfl) rfl #[.int .i64 t119, .int .i64 t120, .int .i64 t119] rfl (by (try simp only [List.map_toArray, List.map_cons, List.map_nil]); first | done | rfl | (simp only [List.length_drop, List.length_take]; rfl)) ?_; (with_reducible refine (key_Between.calls k t119 t120 t119 true _ A8.out).mono ?_); rintro e w' ⟨rfl, ⟨nd, rfl⟩⟩; refine ⟨_, rfl, ?_⟩) | (go_at_call 21; (with_reducible refine (key_Between.calls k t119 t119 t121 false _ A11.out).mono ?_); rintro e w' ⟨rfl, ⟨nd, rfl⟩⟩) | (go_at_call 21; (with_reducible refine (key_Between.calls k t119 t121 t121 t124 _ A13.out).mono ?_); rintro e w' ⟨rfl, ⟨nd, rfl⟩⟩))
          go_meet
          case rel => exact ⟨_, (!t124), (by first | rfl | (simp; done) | (simp [*]; done)), H', ⟨by first | omega | exact Nat.le_refl _⟩, by repeat (first | exact Drawn0.refl _ | apply Drawn0.step)⟩
    · replace c9 := Bool.eq_false_iff.mpr c9
      subst c9
      have H1 : (bellwetherlaw02_KeyBetween.j0 k t119 t120 t121 true) = some r := by rw [if_neg (show ¬ (false = true) by decide)] at H; exact H
      clear H
      have H := H1
      clear H1
      have H' := Aside0.mk H
      clear H
      go_wp2_with (first | ((with_reducible refine gate_callee (f := 21) rfl ?_); refine goesL_ (some 16) rfl rfl Try.func21 (by kernel_rfl) rfl #[.int .i64 t119, .int .i64 t120, .int .i64 t119] rfl (by (try simp only [List.map_toArray, List.map_cons, List.map_nil]); first | done | rfl | (simp only [List.length_drop, List.length_take]; rfl)) ?_; (with_reducible refine (key_Between.calls k t119 t120 t119 false _ A8.out).mono ?_); rintro e w' ⟨rfl, ⟨nd, rfl⟩⟩; refine ⟨_, rfl, ?_⟩))
      go_meet
      case rel => exact ⟨_, (true), (by first | rfl | (simp; done) | (simp [*]; done)), H', ⟨by first | omega | exact Nat.le_refl _⟩, by repeat (first | exact Drawn0.refl _ | apply Drawn0.step)⟩
  case rest =>
    clear HC7
    try clear c1
    try clear c2
    try clear p2
    try clear c8
    try clear c9
    try clear c10
    try clear c10b0
    try clear c10b1
    try clear c12
    obtain ⟨kq, x35_6, rfl, HA, HJ6, ⟨mc6, rfl⟩⟩ := hcut
    cases kq with
    | zero => exact absurd HA.out (by simp [bellwetherlaw02_KeyBetween.j0])
    | succ kj6 =>
      have H := HA.out
      clear HA
      simp only [bellwetherlaw02_KeyBetween.j0] at H
      by_cases c14 : x35_6 = true
      · subst c14
        have H1 : (some false) = some r := by rw [if_pos rfl] at H; exact H
        clear H
        have H := H1
        clear H1
        obtain rfl := Option.some.inj H
        go_wp2
        go_ret
        exact ⟨by first | rfl | (simp; done) | (simp [*]; done), by repeat (first | exact Drawn0.refl _ | apply Drawn0.step)⟩
      · replace c14 := Bool.eq_false_iff.mpr c14
        subst c14
        have H1 : (if t119 = t120 then (bellwetherlaw02_KeyBetween.j1 kj6 t119 t120 t121 true) else (if t120 = t121 then (bellwetherlaw02_KeyBetween.j1 kj6 t119 t120 t121 true) else (bellwetherlaw02_KeyBetween.j1 kj6 t119 t120 t121 (t119 == t121)))) = some r := by rw [if_neg (show ¬ (false = true) by decide)] at H; exact H
        clear H
        have H := H1
        clear H1
        have HC15 := Aside0.mk H
        clear H
        go_upto_region 4 with (fail)
        go_cut [48] (fun v48 wc => ∃ (kq : Nat) (x48_14 : Bool), v48 = .bool x48_14 ∧ Aside0 (bellwetherlaw02_KeyBetween.j1 kq t119 t120 t121 x48_14 = some r) ∧ Aside0 (kq ≤ kj6) ∧ Drawn0 w wc)
        case first =>
          have H := HC15.out
          clear HC15
          by_cases c16 : t119 = t120
          · rw [if_pos c16] at H
            have c16b0 : (t119 == t120) = true := beq_iff_eq.mpr c16
            have c16b1 : (t119 != t120) = false := bne_eq_false_iff_eq.mpr c16
            clear c16
            (first | rw [c16b0] | (simp only [i64_w, i32_w]; rw [c16b0]) | skip)
            have H' := Aside0.mk H
            clear H
            go_wp2
            go_meet
            case rel => exact ⟨_, (true), (by first | rfl | (simp; done) | (simp [*]; done)), H', ⟨by have := HJ6.out; first | omega | exact Nat.le_refl _⟩, by repeat (first | exact Drawn0.refl _ | apply Drawn0.step)⟩
          · rw [if_neg c16] at H
            have c16b0 : (t119 == t120) = false := beq_eq_false_iff_ne.mpr c16
            have c16b1 : (t119 != t120) = true := bne_iff_ne.mpr c16
            (first | rw [c16b0] | (simp only [i64_w, i32_w]; rw [c16b0]) | skip)
            by_cases c17 : t120 = t121
            · rw [if_pos c17] at H
              have c17b0 : (t120 == t121) = true := beq_iff_eq.mpr c17
              have c17b1 : (t120 != t121) = false := bne_eq_false_iff_eq.mpr c17
              clear c17
              have H' := Aside0.mk H
              clear H
              go_wp2
              go_meet
              case rel => exact ⟨_, (true), (by first | rfl | (simp; done) | (simp [*]; done)), H', ⟨by have := HJ6.out; first | omega | exact Nat.le_refl _⟩, by repeat (first | exact Drawn0.refl _ | apply Drawn0.step)⟩
            · rw [if_neg c17] at H
              have c17b0 : (t120 == t121) = false := beq_eq_false_iff_ne.mpr c17
              have c17b1 : (t120 != t121) = true := bne_iff_ne.mpr c17
              have H' := Aside0.mk H
              clear H
              go_wp2
              go_meet
              case rel => exact ⟨_, ((t119 == t121)), (by first | rfl | (simp; done) | (simp [*]; done)), H', ⟨by have := HJ6.out; first | omega | exact Nat.le_refl _⟩, by repeat (first | exact Drawn0.refl _ | apply Drawn0.step)⟩
        case rest =>
          clear HC15
          try clear c1
          try clear c2
          try clear p2
          try clear c6
          try clear c8
          try clear c9
          try clear c10
          try clear c10b0
          try clear c10b1
          try clear c12
          try clear c14
          try clear c16
          try clear c16b0
          try clear c16b1
          try clear c17
          try clear c17b0
          try clear c17b1
          try clear p2
          obtain ⟨kq, x48_14, rfl, HA, HJ14, ⟨mc14, rfl⟩⟩ := hcut
          cases kq with
          | zero => exact absurd HA.out (by simp [bellwetherlaw02_KeyBetween.j1])
          | succ kj14 =>
            have H := HA.out
            clear HA
            simp only [bellwetherlaw02_KeyBetween.j1] at H
            by_cases c18 : x48_14 = true
            · subst c18
              have H1 : ((bellwetherlaw02_wakes.f kj14).bind fun t125 => (some t125)) = some r := by rw [if_pos rfl] at H; exact H
              clear H
              have H := H1
              clear H1
              replace H := Option.bind_eq_some_iff.mp H
              obtain ⟨t125, A190, H⟩ := H
              replace H : (some t125) = some r := H
              have A19 := Aside0.mk A190
              clear A190
              obtain rfl := Option.some.inj H
              go_wp2_with (first | ((with_reducible refine gate_callee (f := 26) rfl ?_); refine goesL_ (some 49) rfl rfl Try.func26 (by kernel_rfl) rfl #[] rfl (by (try simp only [List.map_toArray, List.map_cons, List.map_nil]); first | done | rfl | (simp only [List.length_drop, List.length_take]; rfl)) ?_; (with_reducible refine (bellwetherlaw02_wakes.calls kj14  t125 _ A19.out).mono ?_); rintro e w' ⟨rfl, ⟨nd, rfl⟩⟩; refine ⟨_, rfl, ?_⟩))
              go_ret
              exact ⟨by first | rfl | (simp; done) | (simp [*]; done), by repeat (first | exact Drawn0.refl _ | apply Drawn0.step)⟩
            · replace c18 := Bool.eq_false_iff.mpr c18
              subst c18
              have H1 : ((key_Between.f kj14 t119 t120 t121).bind fun t126 => ((key_Between.f kj14 t121 t120 t119).bind fun t127 => (if (t126 != t127) = true then ((key_Between.f kj14 t119 t120 t121).bind fun t128 => ((key_Between.f kj14 t119 t121 t120).bind fun t129 => (if (t128 != t129) = true then ((bellwetherlaw02_wakes.f kj14).bind fun t130 => (some t130)) else (some false)))) else (some false)))) = some r := by rw [if_neg (show ¬ (false = true) by decide)] at H; exact H
              clear H
              have H := H1
              clear H1
              replace H := Option.bind_eq_some_iff.mp H
              obtain ⟨t126, A200, H⟩ := H
              replace H : ((key_Between.f kj14 t121 t120 t119).bind fun t127 => (if (t126 != t127) = true then ((key_Between.f kj14 t119 t120 t121).bind fun t128 => ((key_Between.f kj14 t119 t121 t120).bind fun t129 => (if (t128 != t129) = true then ((bellwetherlaw02_wakes.f kj14).bind fun t130 => (some t130)) else (some false)))) else (some false))) = some r := H
              have A20 := Aside0.mk A200
              clear A200
              replace H := Option.bind_eq_some_iff.mp H
              obtain ⟨t127, A210, H⟩ := H
              replace H : (if (t126 != t127) = true then ((key_Between.f kj14 t119 t120 t121).bind fun t128 => ((key_Between.f kj14 t119 t121 t120).bind fun t129 => (if (t128 != t129) = true then ((bellwetherlaw02_wakes.f kj14).bind fun t130 => (some t130)) else (some false)))) else (some false)) = some r := H
              have A21 := Aside0.mk A210
              clear A210
              by_cases c22 : (t126 != t127) = true
              · rw [if_pos c22] at H
                have c22b0 : (t126 != t127) = true := c22
                (try (have c22b1 : decide (t126 = t127) = false := by simpa using c22))
                (try (have c22b2 : (t126 == t127) = false := by simpa using c22))
                (try (have c22b3 : ¬ (t126 = t127) := by simpa using c22))
                clear c22
                replace H := Option.bind_eq_some_iff.mp H
                obtain ⟨t128, A230, H⟩ := H
                replace H : ((key_Between.f kj14 t119 t121 t120).bind fun t129 => (if (t128 != t129) = true then ((bellwetherlaw02_wakes.f kj14).bind fun t130 => (some t130)) else (some false))) = some r := H
                have A23 := Aside0.mk A230
                clear A230
                replace H := Option.bind_eq_some_iff.mp H
                obtain ⟨t129, A240, H⟩ := H
                replace H : (if (t128 != t129) = true then ((bellwetherlaw02_wakes.f kj14).bind fun t130 => (some t130)) else (some false)) = some r := H
                have A24 := Aside0.mk A240
                clear A240
                by_cases c25 : (t128 != t129) = true
                · rw [if_pos c25] at H
                  have c25b0 : (t128 != t129) = true := c25
                  (try (have c25b1 : decide (t128 = t129) = false := by simpa using c25))
                  (try (have c25b2 : (t128 == t129) = false := by simpa using c25))
                  (try (have c25b3 : ¬ (t128 = t129) := by simpa using c25))
                  clear c25
                  replace H := Option.bind_eq_some_iff.mp H
                  obtain ⟨t130, A260, H⟩ := H
                  replace H : (some t130) = some r := H
                  have A26 := Aside0.mk A260
                  clear A260
                  obtain rfl := Option.some.inj H
                  go_wp2_with (first | ((with_reducible refine gate_callee (f := 21) rfl ?_); refine goesL_ (some 53) rfl rfl Try.func21 (by kernel_rfl) rfl #[.int .i64 t119, .int .i64 t120, .int .i64 t121] rfl (by (try simp only [List.map_toArray, List.map_cons, List.map_nil]); first | done | rfl | (simp only [List.length_drop, List.length_take]; rfl)) ?_; (with_reducible refine (key_Between.calls kj14 t119 t120 t121 t126 _ A20.out).mono ?_); rintro e w' ⟨rfl, ⟨nd, rfl⟩⟩; refine ⟨_, rfl, ?_⟩) | ((with_reducible refine gate_callee (f := 21) rfl ?_); refine goesL_ (some 57) rfl rfl Try.func21 (by kernel_rfl) rfl #[.int .i64 t121, .int .i64 t120, .int .i64 t119] rfl (by (try simp only [List.map_toArray, List.map_cons, List.map_nil]); first | done | rfl | (simp only [List.length_drop, List.length_take]; rfl)) ?_; (with_reducible refine (key_Between.calls kj14 t121 t120 t119 t127 _ A21.out).mono ?_); rintro e w' ⟨rfl, ⟨nd, rfl⟩⟩; refine ⟨_, rfl, ?_⟩) | (go_at_call 21; (with_reducible refine (key_Between.calls kj14 t119 t120 t121 t128 _ A23.out).mono ?_); rintro e w' ⟨rfl, ⟨nd, rfl⟩⟩) | (go_at_call 21; (with_reducible refine (key_Between.calls kj14 t119 t121 t120 t129 _ A24.out).mono ?_); rintro e w' ⟨rfl, ⟨nd, rfl⟩⟩) | (go_at_call 26; (with_reducible refine (bellwetherlaw02_wakes.calls kj14  t130 _ A26.out).mono ?_); rintro e w' ⟨rfl, ⟨nd, rfl⟩⟩))
                  go_ret
                  exact ⟨by first | rfl | (simp; done) | (simp [*]; done), by repeat (first | exact Drawn0.refl _ | apply Drawn0.step)⟩
                · rw [if_neg c25] at H
                  have c25b0 : (t128 != t129) = false := by simpa using c25
                  (try (have c25b1 : decide (t128 = t129) = true := by simpa using c25))
                  (try (have c25b2 : (t128 == t129) = true := by simpa using c25))
                  clear c25
                  obtain rfl := Option.some.inj H
                  go_wp2_with (first | ((with_reducible refine gate_callee (f := 21) rfl ?_); refine goesL_ (some 53) rfl rfl Try.func21 (by kernel_rfl) rfl #[.int .i64 t119, .int .i64 t120, .int .i64 t121] rfl (by (try simp only [List.map_toArray, List.map_cons, List.map_nil]); first | done | rfl | (simp only [List.length_drop, List.length_take]; rfl)) ?_; (with_reducible refine (key_Between.calls kj14 t119 t120 t121 t126 _ A20.out).mono ?_); rintro e w' ⟨rfl, ⟨nd, rfl⟩⟩; refine ⟨_, rfl, ?_⟩) | ((with_reducible refine gate_callee (f := 21) rfl ?_); refine goesL_ (some 57) rfl rfl Try.func21 (by kernel_rfl) rfl #[.int .i64 t121, .int .i64 t120, .int .i64 t119] rfl (by (try simp only [List.map_toArray, List.map_cons, List.map_nil]); first | done | rfl | (simp only [List.length_drop, List.length_take]; rfl)) ?_; (with_reducible refine (key_Between.calls kj14 t121 t120 t119 t127 _ A21.out).mono ?_); rintro e w' ⟨rfl, ⟨nd, rfl⟩⟩; refine ⟨_, rfl, ?_⟩) | (go_at_call 21; (with_reducible refine (key_Between.calls kj14 t119 t120 t121 t128 _ A23.out).mono ?_); rintro e w' ⟨rfl, ⟨nd, rfl⟩⟩) | (go_at_call 21; (with_reducible refine (key_Between.calls kj14 t119 t121 t120 t129 _ A24.out).mono ?_); rintro e w' ⟨rfl, ⟨nd, rfl⟩⟩))
                  go_ret
                  exact ⟨by first | rfl | (simp; done) | (simp [*]; done), by repeat (first | exact Drawn0.refl _ | apply Drawn0.step)⟩
              · rw [if_neg c22] at H
                have c22b0 : (t126 != t127) = false := by simpa using c22
                (try (have c22b1 : decide (t126 = t127) = true := by simpa using c22))
                (try (have c22b2 : (t126 == t127) = true := by simpa using c22))
                clear c22
                obtain rfl := Option.some.inj H
                go_wp2_with (first | ((with_reducible refine gate_callee (f := 21) rfl ?_); refine goesL_ (some 53) rfl rfl Try.func21 (by kernel_rfl) rfl #[.int .i64 t119, .int .i64 t120, .int .i64 t121] rfl (by (try simp only [List.map_toArray, List.map_cons, List.map_nil]); first | done | rfl | (simp only [List.length_drop, List.length_take]; rfl)) ?_; (with_reducible refine (key_Between.calls kj14 t119 t120 t121 t126 _ A20.out).mono ?_); rintro e w' ⟨rfl, ⟨nd, rfl⟩⟩; refine ⟨_, rfl, ?_⟩) | ((with_reducible refine gate_callee (f := 21) rfl ?_); refine goesL_ (some 57) rfl rfl Try.func21 (by kernel_rfl) rfl #[.int .i64 t121, .int .i64 t120, .int .i64 t119] rfl (by (try simp only [List.map_toArray, List.map_cons, List.map_nil]); first | done | rfl | (simp only [List.length_drop, List.length_take]; rfl)) ?_; (with_reducible refine (key_Between.calls kj14 t121 t120 t119 t127 _ A21.out).mono ?_); rintro e w' ⟨rfl, ⟨nd, rfl⟩⟩; refine ⟨_, rfl, ?_⟩))
                go_ret
                exact ⟨by first | rfl | (simp; done) | (simp [*]; done), by repeat (first | exact Drawn0.refl _ | apply Drawn0.step)⟩

/-- THE ONE PURE STATEMENT of bellwetherlaw02_KeyBetween: yours. -/
def bellwetherlaw02_KeyBetween.Pure : Prop := ∀ (a0 : Int) (a1 : Int) (a2 : Int), (Lit.int .i64 a0).wf = true → (Lit.int .i64 a1).wf = true → (Lit.int .i64 a2).wf = true → ∃ k, bellwetherlaw02_KeyBetween.f k a0 a1 a2 = some true
theorem bellwetherlaw02_KeyBetween.walk (P : bellwetherlaw02_KeyBetween.Pure) (a0 : Int) (a1 : Int) (a2 : Int) (w : World) (w0 : (Lit.int .i64 a0).wf = true) (w1 : (Lit.int .i64 a1).wf = true) (w2 : (Lit.int .i64 a2).wf = true) :
    Calls Try.prog 8 #[.int .i64 a0, .int .i64 a1, .int .i64 a2] w fun e w' => e = .returned (.bool true) ∧ Below w.heap.size w w' := by
  obtain ⟨k, h⟩ := P a0 a1 a2 w0 w1 w2
  refine (bellwetherlaw02_KeyBetween.calls k a0 a1 a2 true w h).mono ?_
  rintro e w' ⟨rfl, hd⟩
  exact ⟨rfl, hd.below⟩

end Go.Proofs.Ytebfhfahkigdlaa.PKeyBetween
