-- PRINTED BY print.sh 35421559b90ae4d0a3588c463048766b98c2df88dd9212a6774a882060cdf62d: not written by this session
import Derived.Test.YtebfhfahkigdlaaPEpochOncex0
namespace Go.Proofs.Ytebfhfahkigdlaa.PEpochOnce
open Go.RowKit Go.Proofs.YtebfhfahkigdlaaW.PrintWords Go.Proofs.YtebfhfahkigdlaaW.PrintLast Go.Proofs.YtebfhfahkigdlaaW.PrintMore
attribute [local go_sem] max2_int min2_int max_two min_two max_three min_three max_four min_four   -- for this text's walks alone
set_option linter.unusedVariables false
set_option linter.unusedSimpArgs false

/-! ### ring_in: function 34 -/
def ring_in.f (a0 : Int) (a1 : Int) : Option (Bool) := if a0 ≥ 0 then (some (decide (a0 < a1))) else (some false)
set_option maxHeartbeats 8000000 in
set_option maxRecDepth 100000 in
theorem ring_in.calls (a0 : Int) (a1 : Int) (r : Bool) (w : World) (h : ring_in.f a0 a1 = some r) :
    Calls Try.prog 34 #[.int .i64 a0, .int .i64 a1] w fun e w' => e = .returned (.bool r) ∧ Drawn0 w w' := by
  have H : (if a0 ≥ 0 then (some (decide (a0 < a1))) else (some false)) = some r := h
  clear h
  by_cases c3 : a0 ≥ 0
  · rw [if_pos c3] at H
    have c3b0 : decide (0 ≤ a0) = true := decide_eq_true c3
    clear c3
    obtain rfl := Option.some.inj H
    go_enter Try.func34, Try.ntmps34
    go_wp2
    go_ret
    exact ⟨by first | rfl | (simp; done) | (simp [*]; done), by repeat (first | exact Drawn0.refl _ | apply Drawn0.step)⟩
  · rw [if_neg c3] at H
    have c3b0 : decide (0 ≤ a0) = false := decide_eq_false c3
    clear c3
    obtain rfl := Option.some.inj H
    go_enter Try.func34, Try.ntmps34
    go_wp2
    go_ret
    exact ⟨by first | rfl | (simp; done) | (simp [*]; done), by repeat (first | exact Drawn0.refl _ | apply Drawn0.step)⟩

/-! ### ring_Is: function 29 -/
def ring_Is.f (a0 : Int) : Option (Bool) := (ring_in.f a0 8).bind fun t101 => (some t101)
set_option maxHeartbeats 8000000 in
set_option maxRecDepth 100000 in
theorem ring_Is.calls (a0 : Int) (r : Bool) (w : World) (h : ring_Is.f a0 = some r) :
    Calls Try.prog 29 #[.int .i64 a0] w fun e w' => e = .returned (.bool r) ∧ Drawn0 w w' := by
  have H : ((ring_in.f a0 8).bind fun t101 => (some t101)) = some r := h
  clear h
  replace H := Option.bind_eq_some_iff.mp H
  obtain ⟨t101, A20, H⟩ := H
  replace H : (some t101) = some r := H
  have A2 := Aside0.mk A20
  clear A20
  obtain rfl := Option.some.inj H
  go_enter Try.func29, Try.ntmps29
  go_wp2_with (first | ((with_reducible refine gate_callee (f := 34) rfl ?_); refine goesL_ (some 4) rfl rfl Try.func34 (by kernel_rfl) rfl #[.int .i64 a0, .int .i64 8] rfl (by (try simp only [List.map_toArray, List.map_cons, List.map_nil]); first | done | rfl | (simp only [List.length_drop, List.length_take]; rfl)) ?_; (with_reducible refine (ring_in.calls a0 8 t101 _ A2.out).mono ?_); rintro e w' ⟨rfl, ⟨nd, rfl⟩⟩; refine ⟨_, rfl, ?_⟩))
  go_ret
  exact ⟨by first | rfl | (simp; done) | (simp [*]; done), by repeat (first | exact Drawn0.refl _ | apply Drawn0.step)⟩

/-! ### epoch_Check: function 15 -/
def epoch_Check.f (a0 : Int) : Option (Int) := if a0 < 1 then (some 1) else (if a0 > 1073741824 then (some 1) else ((ring_Is.f (Int.tmod a0 16)).bind fun t102 => (if t102 = true then (some 0) else (some 1))))
set_option maxHeartbeats 8000000 in
set_option maxRecDepth 100000 in
theorem epoch_Check.calls (a0 : Int) (r : Int) (w : World) (h : epoch_Check.f a0 = some r) :
    Calls Try.prog 15 #[.int .i64 a0] w fun e w' => e = .returned (.int .i64 r) ∧ Drawn0 w w' := by
  have H : (if a0 < 1 then (some 1) else (if a0 > 1073741824 then (some 1) else ((ring_Is.f (Int.tmod a0 16)).bind fun t102 => (if t102 = true then (some 0) else (some 1))))) = some r := h
  clear h
  by_cases c2 : a0 < 1
  · rw [if_pos c2] at H
    have c2b0 : decide (a0 < 1) = true := decide_eq_true c2
    clear c2
    obtain rfl := Option.some.inj H
    go_enter Try.func15, Try.ntmps15
    go_wp2
    go_ret
    exact ⟨by first | rfl | (simp; done) | (simp [*]; done), by repeat (first | exact Drawn0.refl _ | apply Drawn0.step)⟩
  · rw [if_neg c2] at H
    have c2b0 : decide (a0 < 1) = false := decide_eq_false c2
    clear c2
    by_cases c3 : a0 > 1073741824
    · rw [if_pos c3] at H
      have c3b0 : decide (1073741824 < a0) = true := decide_eq_true c3
      clear c3
      obtain rfl := Option.some.inj H
      go_enter Try.func15, Try.ntmps15
      go_wp2
      go_ret
      exact ⟨by first | rfl | (simp; done) | (simp [*]; done), by repeat (first | exact Drawn0.refl _ | apply Drawn0.step)⟩
    · rw [if_neg c3] at H
      have c3b0 : decide (1073741824 < a0) = false := decide_eq_false c3
      clear c3
      replace H := Option.bind_eq_some_iff.mp H
      obtain ⟨t102, A40, H⟩ := H
      replace H : (if t102 = true then (some 0) else (some 1)) = some r := H
      have A4 := Aside0.mk A40
      clear A40
      by_cases c5 : t102 = true
      · subst c5
        have H1 : (some 0) = some r := by rw [if_pos rfl] at H; exact H
        clear H
        have H := H1
        clear H1
        obtain rfl := Option.some.inj H
        go_enter Try.func15, Try.ntmps15
        go_wp2_with (first | (go_at_call 29; (with_reducible refine (ring_Is.calls (Int.tmod a0 16) true _ A4.out).mono ?_); rintro e w' ⟨rfl, ⟨nd, rfl⟩⟩))
        go_ret
        exact ⟨by first | rfl | (simp; done) | (simp [*]; done), by repeat (first | exact Drawn0.refl _ | apply Drawn0.step)⟩
      · replace c5 := Bool.eq_false_iff.mpr c5
        subst c5
        have H1 : (some 1) = some r := by rw [if_neg (show ¬ (false = true) by decide)] at H; exact H
        clear H
        have H := H1
        clear H1
        obtain rfl := Option.some.inj H
        go_enter Try.func15, Try.ntmps15
        go_wp2_with (first | (go_at_call 29; (with_reducible refine (ring_Is.calls (Int.tmod a0 16) false _ A4.out).mono ?_); rintro e w' ⟨rfl, ⟨nd, rfl⟩⟩))
        go_ret
        exact ⟨by first | rfl | (simp; done) | (simp [*]; done), by repeat (first | exact Drawn0.refl _ | apply Drawn0.step)⟩

/-! ### epoch_Who: function 12 -/
def epoch_Who.f (a0 : Int) : Option (Int × Int) := (epoch_Check.f a0).bind fun t103 => (if t103 = 0 then (some (Int.tmod a0 16, 0)) else (some (0, t103)))
set_option maxHeartbeats 8000000 in
set_option maxRecDepth 100000 in
theorem epoch_Who.calls (a0 : Int) (r1 : Int) (r2 : Int) (w : World) (h : epoch_Who.f a0 = some (r1, r2)) :
    Calls Try.prog 12 #[.int .i64 a0] w fun e w' => e = .returned (.tuple #[.int .i64 r1, .int .i64 r2]) ∧ Drawn0 w w' := by
  have H : ((epoch_Check.f a0).bind fun t103 => (if t103 = 0 then (some (Int.tmod a0 16, 0)) else (some (0, t103)))) = some (r1, r2) := h
  clear h
  replace H := Option.bind_eq_some_iff.mp H
  obtain ⟨t103, A20, H⟩ := H
  replace H : (if t103 = 0 then (some (Int.tmod a0 16, 0)) else (some (0, t103))) = some (r1, r2) := H
  have A2 := Aside0.mk A20
  clear A20
  by_cases c3 : t103 = 0
  · rw [if_pos c3] at H
    have c3b0 : (t103 == 0) = true := beq_iff_eq.mpr c3
    have c3b1 : (t103 != 0) = false := bne_eq_false_iff_eq.mpr c3
    clear c3
    simp only [Option.some.injEq, Prod.mk.injEq] at H
    obtain ⟨rfl, rfl⟩ := H
    go_enter Try.func12, Try.ntmps12
    go_wp2_with (first | ((with_reducible refine gate_callee (f := 15) rfl ?_); refine goesL_ (some 6) rfl rfl Try.func15 (by kernel_rfl) rfl #[.int .i64 a0] rfl (by (try simp only [List.map_toArray, List.map_cons, List.map_nil]); first | done | rfl | (simp only [List.length_drop, List.length_take]; rfl)) ?_; (with_reducible refine (epoch_Check.calls a0 t103 _ A2.out).mono ?_); rintro e w' ⟨rfl, ⟨nd, rfl⟩⟩; refine ⟨_, rfl, ?_⟩))
    go_ret2
    exact ⟨by first | rfl | (simp; done) | (simp [*]; done), by repeat (first | exact Drawn0.refl _ | apply Drawn0.step)⟩
  · rw [if_neg c3] at H
    have c3b0 : (t103 == 0) = false := beq_eq_false_iff_ne.mpr c3
    have c3b1 : (t103 != 0) = true := bne_iff_ne.mpr c3
    simp only [Option.some.injEq, Prod.mk.injEq] at H
    obtain ⟨rfl, rfl⟩ := H
    go_enter Try.func12, Try.ntmps12
    go_wp2_with (first | ((with_reducible refine gate_callee (f := 15) rfl ?_); refine goesL_ (some 6) rfl rfl Try.func15 (by kernel_rfl) rfl #[.int .i64 a0] rfl (by (try simp only [List.map_toArray, List.map_cons, List.map_nil]); first | done | rfl | (simp only [List.length_drop, List.length_take]; rfl)) ?_; (with_reducible refine (epoch_Check.calls a0 t103 _ A2.out).mono ?_); rintro e w' ⟨rfl, ⟨nd, rfl⟩⟩; refine ⟨_, rfl, ?_⟩))
    go_ret2
    exact ⟨by first | rfl | (simp; done) | (simp [*]; done), by repeat (first | exact Drawn0.refl _ | apply Drawn0.step)⟩

/-! ### epoch_Next: function 13 -/
def epoch_Next.j0 : Nat → Int → Int → Bool → Option (Int × Int)
  | 0, _, _, _ => none
  | k + 1, x0, x1, x17 => if x17 = true then (some (0, 1)) else (if (wrap64 ((wrap64 (x1 - (Int.tmod x1 16))) + x0)) ≤ x1 then (if (wrap64 ((wrap64 ((wrap64 (x1 - (Int.tmod x1 16))) + x0)) + 16)) > 1073741824 then (some (0, 11)) else (some (wrap64 ((wrap64 ((wrap64 (x1 - (Int.tmod x1 16))) + x0)) + 16), 0))) else (if (wrap64 ((wrap64 (x1 - (Int.tmod x1 16))) + x0)) > 1073741824 then (some (0, 11)) else (some (wrap64 ((wrap64 (x1 - (Int.tmod x1 16))) + x0), 0))))
def epoch_Next.f (k : Nat) (a0 : Int) (a1 : Int) : Option (Int × Int) := (ring_Is.f a0).bind fun t104 => (if t104 = true then (if a1 < 0 then (epoch_Next.j0 k a0 a1 true) else (epoch_Next.j0 k a0 a1 (decide (a1 > 1073741824)))) else (epoch_Next.j0 k a0 a1 true))
theorem epoch_Next.mono_l : ∀ k, (∀ y0 y1 y2, LeO (epoch_Next.j0 k y0 y1 y2) (epoch_Next.j0 (k + 1) y0 y1 y2))
  | 0 => fun _ _ _ r h => by simp [epoch_Next.j0] at h
  | k + 1 => by
    have ih0 := epoch_Next.mono_l k
    · intro y0 y1 y2
      unfold epoch_Next.j0
      repeat' first
      | (with_reducible exact ih0 _ _ _)
      | (with_reducible exact LeO.refl _)
      | (with_reducible exact LeO.none _)
      | (with_reducible refine LeO.ite ?_ ?_)
      | (with_reducible refine LeO.bind ?_ (fun _ => ?_))
      | exact ih0 _ _ _
      | exact LeO.none _
      | refine LeO.ite ?_ ?_
      | refine LeO.bind ?_ (fun _ => ?_)
theorem epoch_Next.mono : ∀ a0 a1 k, LeO (epoch_Next.f k a0 a1) (epoch_Next.f (k + 1) a0 a1) := by
  intro a0 a1 k
  have ih0 := epoch_Next.mono_l k
  unfold epoch_Next.f
  repeat' first
      | (with_reducible exact ih0 _ _ _)
      | (with_reducible exact LeO.refl _)
      | (with_reducible exact LeO.none _)
      | (with_reducible refine LeO.ite ?_ ?_)
      | (with_reducible refine LeO.bind ?_ (fun _ => ?_))
      | exact ih0 _ _ _
      | exact LeO.none _
      | refine LeO.ite ?_ ?_
      | refine LeO.bind ?_ (fun _ => ?_)
set_option maxHeartbeats 8000000 in
set_option maxRecDepth 100000 in
theorem epoch_Next.calls (k : Nat) (a0 : Int) (a1 : Int) (r1 : Int) (r2 : Int) (w : World) (h : epoch_Next.f k a0 a1 = some (r1, r2)) :
    Calls Try.prog 13 #[.int .i64 a0, .int .i64 a1] w fun e w' => e = .returned (.tuple #[.int .i64 r1, .int .i64 r2]) ∧ Drawn0 w w' := by
  have H : ((ring_Is.f a0).bind fun t104 => (if t104 = true then (if a1 < 0 then (epoch_Next.j0 k a0 a1 true) else (epoch_Next.j0 k a0 a1 (decide (a1 > 1073741824)))) else (epoch_Next.j0 k a0 a1 true))) = some (r1, r2) := h
  clear h
  have HC3 := Aside0.mk H
  clear H
  go_enter Try.func13, Try.ntmps13
  go_upto_region 1 with (fail)
  go_cut [17] (fun v17 wc => ∃ (kq : Nat) (x17_2 : Bool), v17 = .bool x17_2 ∧ Aside0 (epoch_Next.j0 kq a0 a1 x17_2 = some (r1, r2)) ∧ Aside0 (kq ≤ k) ∧ Drawn0 w wc)
  case first =>
    have H := HC3.out
    clear HC3
    replace H := Option.bind_eq_some_iff.mp H
    obtain ⟨t104, A40, H⟩ := H
    replace H : (if t104 = true then (if a1 < 0 then (epoch_Next.j0 k a0 a1 true) else (epoch_Next.j0 k a0 a1 (decide (a1 > 1073741824)))) else (epoch_Next.j0 k a0 a1 true)) = some (r1, r2) := H
    have A4 := Aside0.mk A40
    clear A40
    by_cases c5 : t104 = true
    · subst c5
      have H1 : (if a1 < 0 then (epoch_Next.j0 k a0 a1 true) else (epoch_Next.j0 k a0 a1 (decide (a1 > 1073741824)))) = some (r1, r2) := by rw [if_pos rfl] at H; exact H
      clear H
      have H := H1
      clear H1
      by_cases c6 : a1 < 0
      · rw [if_pos c6] at H
        have c6b0 : decide (a1 < 0) = true := decide_eq_true c6
        clear c6
        (first | rw [c6b0] | (simp only [i64_w, i32_w]; rw [c6b0]) | skip)
        have H' := Aside0.mk H
        clear H
        go_wp2_with (first | ((with_reducible refine gate_callee (f := 29) rfl ?_); refine goesL_ (some 8) rfl rfl Try.func29 (by kernel_rfl) rfl #[.int .i64 a0] rfl (by (try simp only [List.map_toArray, List.map_cons, List.map_nil]); first | done | rfl | (simp only [List.length_drop, List.length_take]; rfl)) ?_; (with_reducible refine (ring_Is.calls a0 true _ A4.out).mono ?_); rintro e w' ⟨rfl, ⟨nd, rfl⟩⟩; refine ⟨_, rfl, ?_⟩))
        go_meet
        case rel => exact ⟨_, (true), (by first | rfl | (simp; done) | (simp [*]; done)), H', ⟨by first | omega | exact Nat.le_refl _⟩, by repeat (first | exact Drawn0.refl _ | apply Drawn0.step)⟩
      · rw [if_neg c6] at H
        have c6b0 : decide (a1 < 0) = false := decide_eq_false c6
        clear c6
        (first | rw [c6b0] | (simp only [i64_w, i32_w]; rw [c6b0]) | skip)
        have H' := Aside0.mk H
        clear H
        go_wp2_with (first | ((with_reducible refine gate_callee (f := 29) rfl ?_); refine goesL_ (some 8) rfl rfl Try.func29 (by kernel_rfl) rfl #[.int .i64 a0] rfl (by (try simp only [List.map_toArray, List.map_cons, List.map_nil]); first | done | rfl | (simp only [List.length_drop, List.length_take]; rfl)) ?_; (with_reducible refine (ring_Is.calls a0 true _ A4.out).mono ?_); rintro e w' ⟨rfl, ⟨nd, rfl⟩⟩; refine ⟨_, rfl, ?_⟩))
        go_meet
        case rel => exact ⟨_, (decide (a1 > 1073741824)), (by first | rfl | (simp; done) | (simp [*]; done)), H', ⟨by first | omega | exact Nat.le_refl _⟩, by repeat (first | exact Drawn0.refl _ | apply Drawn0.step)⟩
    · replace c5 := Bool.eq_false_iff.mpr c5
      subst c5
      have H1 : (epoch_Next.j0 k a0 a1 true) = some (r1, r2) := by rw [if_neg (show ¬ (false = true) by decide)] at H; exact H
      clear H
      have H := H1
      clear H1
      have H' := Aside0.mk H
      clear H
      go_wp2_with (first | ((with_reducible refine gate_callee (f := 29) rfl ?_); refine goesL_ (some 8) rfl rfl Try.func29 (by kernel_rfl) rfl #[.int .i64 a0] rfl (by (try simp only [List.map_toArray, List.map_cons, List.map_nil]); first | done | rfl | (simp only [List.length_drop, List.length_take]; rfl)) ?_; (with_reducible refine (ring_Is.calls a0 false _ A4.out).mono ?_); rintro e w' ⟨rfl, ⟨nd, rfl⟩⟩; refine ⟨_, rfl, ?_⟩))
      go_meet
      case rel => exact ⟨_, (true), (by first | rfl | (simp; done) | (simp [*]; done)), H', ⟨by first | omega | exact Nat.le_refl _⟩, by repeat (first | exact Drawn0.refl _ | apply Drawn0.step)⟩
  case rest =>
    clear HC3
    try clear c1
    try clear c2
    try clear p2
    try clear c5
    try clear c6
    try clear c6b0
    obtain ⟨kq, x17_2, rfl, HA, HJ2, ⟨mc2, rfl⟩⟩ := hcut
    cases kq with
    | zero => exact absurd HA.out (by simp [epoch_Next.j0])
    | succ kj2 =>
      have H := HA.out
      clear HA
      simp only [epoch_Next.j0] at H
      by_cases c7 : x17_2 = true
      · subst c7
        have H1 : (some (0, 1)) = some (r1, r2) := by rw [if_pos rfl] at H; exact H
        clear H
        have H := H1
        clear H1
        simp only [Option.some.injEq, Prod.mk.injEq] at H
        obtain ⟨rfl, rfl⟩ := H
        go_wp2
        go_ret2
        exact ⟨by first | rfl | (simp; done) | (simp [*]; done), by repeat (first | exact Drawn0.refl _ | apply Drawn0.step)⟩
      · replace c7 := Bool.eq_false_iff.mpr c7
        subst c7
        have H1 : (if (wrap64 ((wrap64 (a1 - (Int.tmod a1 16))) + a0)) ≤ a1 then (if (wrap64 ((wrap64 ((wrap64 (a1 - (Int.tmod a1 16))) + a0)) + 16)) > 1073741824 then (some (0, 11)) else (some (wrap64 ((wrap64 ((wrap64 (a1 - (Int.tmod a1 16))) + a0)) + 16), 0))) else (if (wrap64 ((wrap64 (a1 - (Int.tmod a1 16))) + a0)) > 1073741824 then (some (0, 11)) else (some (wrap64 ((wrap64 (a1 - (Int.tmod a1 16))) + a0), 0)))) = some (r1, r2) := by rw [if_neg (show ¬ (false = true) by decide)] at H; exact H
        clear H
        have H := H1
        clear H1
        by_cases c8 : (wrap64 ((wrap64 (a1 - (Int.tmod a1 16))) + a0)) ≤ a1
        · rw [if_pos c8] at H
          have c8b0 : decide ((wrap64 ((wrap64 (a1 - (Int.tmod a1 16))) + a0)) ≤ a1) = true := decide_eq_true c8
          clear c8
          by_cases c9 : (wrap64 ((wrap64 ((wrap64 (a1 - (Int.tmod a1 16))) + a0)) + 16)) > 1073741824
          · rw [if_pos c9] at H
            have c9b0 : decide (1073741824 < (wrap64 ((wrap64 ((wrap64 (a1 - (Int.tmod a1 16))) + a0)) + 16))) = true := decide_eq_true c9
            clear c9
            simp only [Option.some.injEq, Prod.mk.injEq] at H
            obtain ⟨rfl, rfl⟩ := H
            go_wp2
            go_ret2
            exact ⟨by first | rfl | (simp; done) | (simp [*]; done), by repeat (first | exact Drawn0.refl _ | apply Drawn0.step)⟩
          · rw [if_neg c9] at H
            have c9b0 : decide (1073741824 < (wrap64 ((wrap64 ((wrap64 (a1 - (Int.tmod a1 16))) + a0)) + 16))) = false := decide_eq_false c9
            clear c9
            simp only [Option.some.injEq, Prod.mk.injEq] at H
            obtain ⟨rfl, rfl⟩ := H
            go_wp2
            go_ret2
            exact ⟨by first | rfl | (simp; done) | (simp [*]; done), by repeat (first | exact Drawn0.refl _ | apply Drawn0.step)⟩
        · rw [if_neg c8] at H
          have c8b0 : decide ((wrap64 ((wrap64 (a1 - (Int.tmod a1 16))) + a0)) ≤ a1) = false := decide_eq_false c8
          clear c8
          by_cases c10 : (wrap64 ((wrap64 (a1 - (Int.tmod a1 16))) + a0)) > 1073741824
          · rw [if_pos c10] at H
            have c10b0 : decide (1073741824 < (wrap64 ((wrap64 (a1 - (Int.tmod a1 16))) + a0))) = true := decide_eq_true c10
            clear c10
            simp only [Option.some.injEq, Prod.mk.injEq] at H
            obtain ⟨rfl, rfl⟩ := H
            go_wp2
            go_ret2
            exact ⟨by first | rfl | (simp; done) | (simp [*]; done), by repeat (first | exact Drawn0.refl _ | apply Drawn0.step)⟩
          · rw [if_neg c10] at H
            have c10b0 : decide (1073741824 < (wrap64 ((wrap64 (a1 - (Int.tmod a1 16))) + a0))) = false := decide_eq_false c10
            clear c10
            simp only [Option.some.injEq, Prod.mk.injEq] at H
            obtain ⟨rfl, rfl⟩ := H
            go_wp2
            go_ret2
            exact ⟨by first | rfl | (simp; done) | (simp [*]; done), by repeat (first | exact Drawn0.refl _ | apply Drawn0.step)⟩

/-! ### bellwetherlaw14_wakes: function 17 -/
def bellwetherlaw14_wakes.f (k : Nat)  : Option (Bool) := (epoch_Next.f k 3 0).bind fun bt105 => ((epoch_Next.f k 0 0).bind fun bt107 => ((epoch_Who.f 35).bind fun bt109 => (if bt105.2 = 0 then (if bt105.1 = 3 then (if bt107.2 = 0 then (if bt107.1 = 16 then (if bt109.2 = 0 then (if bt109.1 = 3 then ((epoch_Check.f 0).bind fun t111 => (if t111 = 1 then ((epoch_Check.f 8).bind fun t112 => (some (t112 == 1))) else (some false))) else (some false)) else (some false)) else (some false)) else (some false)) else (some false)) else (some false))))
theorem bellwetherlaw14_wakes.mono : ∀ k, LeO (bellwetherlaw14_wakes.f k ) (bellwetherlaw14_wakes.f (k + 1) ) := by
  intro  k
  unfold bellwetherlaw14_wakes.f
  repeat' first
      | (with_reducible exact epoch_Next.mono _ _ _)
      | (with_reducible exact LeO.refl _)
      | (with_reducible exact LeO.none _)
      | (with_reducible refine LeO.ite ?_ ?_)
      | (with_reducible refine LeO.bind ?_ (fun _ => ?_))
      | exact epoch_Next.mono _ _ _
      | exact LeO.none _
      | refine LeO.ite ?_ ?_
      | refine LeO.bind ?_ (fun _ => ?_)
set_option maxHeartbeats 8000000 in
set_option maxRecDepth 100000 in
theorem bellwetherlaw14_wakes.calls (k : Nat)  (r : Bool) (w : World) (h : bellwetherlaw14_wakes.f k  = some r) :
    Calls Try.prog 17 #[] w fun e w' => e = .returned (.bool r) ∧ Drawn0 w w' := by
  have H : ((epoch_Next.f k 3 0).bind fun bt105 => ((epoch_Next.f k 0 0).bind fun bt107 => ((epoch_Who.f 35).bind fun bt109 => (if bt105.2 = 0 then (if bt105.1 = 3 then (if bt107.2 = 0 then (if bt107.1 = 16 then (if bt109.2 = 0 then (if bt109.1 = 3 then ((epoch_Check.f 0).bind fun t111 => (if t111 = 1 then ((epoch_Check.f 8).bind fun t112 => (some (t112 == 1))) else (some false))) else (some false)) else (some false)) else (some false)) else (some false)) else (some false)) else (some false))))) = some r := h
  clear h
  replace H := Option.bind_eq_some_iff.mp H
  obtain ⟨⟨t105, t106⟩, A10, H⟩ := H
  replace H : ((epoch_Next.f k 0 0).bind fun bt107 => ((epoch_Who.f 35).bind fun bt109 => (if t106 = 0 then (if t105 = 3 then (if bt107.2 = 0 then (if bt107.1 = 16 then (if bt109.2 = 0 then (if bt109.1 = 3 then ((epoch_Check.f 0).bind fun t111 => (if t111 = 1 then ((epoch_Check.f 8).bind fun t112 => (some (t112 == 1))) else (some false))) else (some false)) else (some false)) else (some false)) else (some false)) else (some false)) else (some false)))) = some r := H
  have A1 := Aside0.mk A10
  clear A10
  replace H := Option.bind_eq_some_iff.mp H
  obtain ⟨⟨t107, t108⟩, A20, H⟩ := H
  replace H : ((epoch_Who.f 35).bind fun bt109 => (if t106 = 0 then (if t105 = 3 then (if t108 = 0 then (if t107 = 16 then (if bt109.2 = 0 then (if bt109.1 = 3 then ((epoch_Check.f 0).bind fun t111 => (if t111 = 1 then ((epoch_Check.f 8).bind fun t112 => (some (t112 == 1))) else (some false))) else (some false)) else (some false)) else (some false)) else (some false)) else (some false)) else (some false))) = some r := H
  have A2 := Aside0.mk A20
  clear A20
  replace H := Option.bind_eq_some_iff.mp H
  obtain ⟨⟨t109, t110⟩, A30, H⟩ := H
  replace H : (if t106 = 0 then (if t105 = 3 then (if t108 = 0 then (if t107 = 16 then (if t110 = 0 then (if t109 = 3 then ((epoch_Check.f 0).bind fun t111 => (if t111 = 1 then ((epoch_Check.f 8).bind fun t112 => (some (t112 == 1))) else (some false))) else (some false)) else (some false)) else (some false)) else (some false)) else (some false)) else (some false)) = some r := H
  have A3 := Aside0.mk A30
  clear A30
  by_cases c4 : t106 = 0
  · rw [if_pos c4] at H
    have c4b0 : (t106 == 0) = true := beq_iff_eq.mpr c4
    have c4b1 : (t106 != 0) = false := bne_eq_false_iff_eq.mpr c4
    clear c4
    by_cases c5 : t105 = 3
    · rw [if_pos c5] at H
      have c5b0 : (t105 == 3) = true := beq_iff_eq.mpr c5
      have c5b1 : (t105 != 3) = false := bne_eq_false_iff_eq.mpr c5
      clear c5
      by_cases c6 : t108 = 0
      · rw [if_pos c6] at H
        have c6b0 : (t108 == 0) = true := beq_iff_eq.mpr c6
        have c6b1 : (t108 != 0) = false := bne_eq_false_iff_eq.mpr c6
        clear c6
        by_cases c7 : t107 = 16
        · rw [if_pos c7] at H
          have c7b0 : (t107 == 16) = true := beq_iff_eq.mpr c7
          have c7b1 : (t107 != 16) = false := bne_eq_false_iff_eq.mpr c7
          clear c7
          by_cases c8 : t110 = 0
          · rw [if_pos c8] at H
            have c8b0 : (t110 == 0) = true := beq_iff_eq.mpr c8
            have c8b1 : (t110 != 0) = false := bne_eq_false_iff_eq.mpr c8
            clear c8
            by_cases c9 : t109 = 3
            · rw [if_pos c9] at H
              have c9b0 : (t109 == 3) = true := beq_iff_eq.mpr c9
              have c9b1 : (t109 != 3) = false := bne_eq_false_iff_eq.mpr c9
              clear c9
              replace H := Option.bind_eq_some_iff.mp H
              obtain ⟨t111, A100, H⟩ := H
              replace H : (if t111 = 1 then ((epoch_Check.f 8).bind fun t112 => (some (t112 == 1))) else (some false)) = some r := H
              have A10 := Aside0.mk A100
              clear A100
              by_cases c11 : t111 = 1
              · rw [if_pos c11] at H
                have c11b0 : (t111 == 1) = true := beq_iff_eq.mpr c11
                have c11b1 : (t111 != 1) = false := bne_eq_false_iff_eq.mpr c11
                clear c11
                replace H := Option.bind_eq_some_iff.mp H
                obtain ⟨t112, A120, H⟩ := H
                replace H : (some (t112 == 1)) = some r := H
                have A12 := Aside0.mk A120
                clear A120
                obtain rfl := Option.some.inj H
                go_enter Try.func17, Try.ntmps17
                go_wp2_with (first | ((with_reducible refine gate_callee (f := 13) rfl ?_); refine goesL_ (some 8) rfl rfl Try.func13 (by kernel_rfl) rfl #[.int .i64 3, .int .i64 0] rfl (by (try simp only [List.map_toArray, List.map_cons, List.map_nil]); first | done | rfl | (simp only [List.length_drop, List.length_take]; rfl)) ?_; (with_reducible refine (epoch_Next.calls k 3 0 t105 t106 _ A1.out).mono ?_); rintro e w' ⟨rfl, ⟨nd, rfl⟩⟩; refine ⟨_, rfl, ?_⟩) | ((with_reducible refine gate_callee (f := 13) rfl ?_); refine goesL_ (some 12) rfl rfl Try.func13 (by kernel_rfl) rfl #[.int .i64 0, .int .i64 0] rfl (by (try simp only [List.map_toArray, List.map_cons, List.map_nil]); first | done | rfl | (simp only [List.length_drop, List.length_take]; rfl)) ?_; (with_reducible refine (epoch_Next.calls k 0 0 t107 t108 _ A2.out).mono ?_); rintro e w' ⟨rfl, ⟨nd, rfl⟩⟩; refine ⟨_, rfl, ?_⟩) | ((with_reducible refine gate_callee (f := 12) rfl ?_); refine goesL_ (some 16) rfl rfl Try.func12 (by kernel_rfl) rfl #[.int .i64 35] rfl (by (try simp only [List.map_toArray, List.map_cons, List.map_nil]); first | done | rfl | (simp only [List.length_drop, List.length_take]; rfl)) ?_; (with_reducible refine (epoch_Who.calls 35 t109 t110 _ A3.out).mono ?_); rintro e w' ⟨rfl, ⟨nd, rfl⟩⟩; refine ⟨_, rfl, ?_⟩) | (go_at_call 15; (with_reducible refine (epoch_Check.calls 0 t111 _ A10.out).mono ?_); rintro e w' ⟨rfl, ⟨nd, rfl⟩⟩) | (go_at_call 15; (with_reducible refine (epoch_Check.calls 8 t112 _ A12.out).mono ?_); rintro e w' ⟨rfl, ⟨nd, rfl⟩⟩))
                go_ret
                exact ⟨by first | rfl | (simp; done) | (simp [*]; done), by repeat (first | exact Drawn0.refl _ | apply Drawn0.step)⟩
              · rw [if_neg c11] at H
                have c11b0 : (t111 == 1) = false := beq_eq_false_iff_ne.mpr c11
                have c11b1 : (t111 != 1) = true := bne_iff_ne.mpr c11
                obtain rfl := Option.some.inj H
                go_enter Try.func17, Try.ntmps17
                go_wp2_with (first | ((with_reducible refine gate_callee (f := 13) rfl ?_); refine goesL_ (some 8) rfl rfl Try.func13 (by kernel_rfl) rfl #[.int .i64 3, .int .i64 0] rfl (by (try simp only [List.map_toArray, List.map_cons, List.map_nil]); first | done | rfl | (simp only [List.length_drop, List.length_take]; rfl)) ?_; (with_reducible refine (epoch_Next.calls k 3 0 t105 t106 _ A1.out).mono ?_); rintro e w' ⟨rfl, ⟨nd, rfl⟩⟩; refine ⟨_, rfl, ?_⟩) | ((with_reducible refine gate_callee (f := 13) rfl ?_); refine goesL_ (some 12) rfl rfl Try.func13 (by kernel_rfl) rfl #[.int .i64 0, .int .i64 0] rfl (by (try simp only [List.map_toArray, List.map_cons, List.map_nil]); first | done | rfl | (simp only [List.length_drop, List.length_take]; rfl)) ?_; (with_reducible refine (epoch_Next.calls k 0 0 t107 t108 _ A2.out).mono ?_); rintro e w' ⟨rfl, ⟨nd, rfl⟩⟩; refine ⟨_, rfl, ?_⟩) | ((with_reducible refine gate_callee (f := 12) rfl ?_); refine goesL_ (some 16) rfl rfl Try.func12 (by kernel_rfl) rfl #[.int .i64 35] rfl (by (try simp only [List.map_toArray, List.map_cons, List.map_nil]); first | done | rfl | (simp only [List.length_drop, List.length_take]; rfl)) ?_; (with_reducible refine (epoch_Who.calls 35 t109 t110 _ A3.out).mono ?_); rintro e w' ⟨rfl, ⟨nd, rfl⟩⟩; refine ⟨_, rfl, ?_⟩) | (go_at_call 15; (with_reducible refine (epoch_Check.calls 0 t111 _ A10.out).mono ?_); rintro e w' ⟨rfl, ⟨nd, rfl⟩⟩))
                go_ret
                exact ⟨by first | rfl | (simp; done) | (simp [*]; done), by repeat (first | exact Drawn0.refl _ | apply Drawn0.step)⟩
            · rw [if_neg c9] at H
              have c9b0 : (t109 == 3) = false := beq_eq_false_iff_ne.mpr c9
              have c9b1 : (t109 != 3) = true := bne_iff_ne.mpr c9
              obtain rfl := Option.some.inj H
              go_enter Try.func17, Try.ntmps17
              go_wp2_with (first | ((with_reducible refine gate_callee (f := 13) rfl ?_); refine goesL_ (some 8) rfl rfl Try.func13 (by kernel_rfl) rfl #[.int .i64 3, .int .i64 0] rfl (by (try simp only [List.map_toArray, List.map_cons, List.map_nil]); first | done | rfl | (simp only [List.length_drop, List.length_take]; rfl)) ?_; (with_reducible refine (epoch_Next.calls k 3 0 t105 t106 _ A1.out).mono ?_); rintro e w' ⟨rfl, ⟨nd, rfl⟩⟩; refine ⟨_, rfl, ?_⟩) | ((with_reducible refine gate_callee (f := 13) rfl ?_); refine goesL_ (some 12) rfl rfl Try.func13 (by kernel_rfl) rfl #[.int .i64 0, .int .i64 0] rfl (by (try simp only [List.map_toArray, List.map_cons, List.map_nil]); first | done | rfl | (simp only [List.length_drop, List.length_take]; rfl)) ?_; (with_reducible refine (epoch_Next.calls k 0 0 t107 t108 _ A2.out).mono ?_); rintro e w' ⟨rfl, ⟨nd, rfl⟩⟩; refine ⟨_, rfl, ?_⟩) | ((with_reducible refine gate_callee (f := 12) rfl ?_); refine goesL_ (some 16) rfl rfl Try.func12 (by kernel_rfl) rfl #[.int .i64 35] rfl (by (try simp only [List.map_toArray, List.map_cons, List.map_nil]); first | done | rfl | (simp only [List.length_drop, List.length_take]; rfl)) ?_; (with_reducible refine (epoch_Who.calls 35 t109 t110 _ A3.out).mono ?_); rintro e w' ⟨rfl, ⟨nd, rfl⟩⟩; refine ⟨_, rfl, ?_⟩))
              go_ret
              exact ⟨by first | rfl | (simp; done) | (simp [*]; done), by repeat (first | exact Drawn0.refl _ | apply Drawn0.step)⟩
          · rw [if_neg c8] at H
            have c8b0 : (t110 == 0) = false := beq_eq_false_iff_ne.mpr c8
            have c8b1 : (t110 != 0) = true := bne_iff_ne.mpr c8
            obtain rfl := Option.some.inj H
            go_enter Try.func17, Try.ntmps17
            go_wp2_with (first | ((with_reducible refine gate_callee (f := 13) rfl ?_); refine goesL_ (some 8) rfl rfl Try.func13 (by kernel_rfl) rfl #[.int .i64 3, .int .i64 0] rfl (by (try simp only [List.map_toArray, List.map_cons, List.map_nil]); first | done | rfl | (simp only [List.length_drop, List.length_take]; rfl)) ?_; (with_reducible refine (epoch_Next.calls k 3 0 t105 t106 _ A1.out).mono ?_); rintro e w' ⟨rfl, ⟨nd, rfl⟩⟩; refine ⟨_, rfl, ?_⟩) | ((with_reducible refine gate_callee (f := 13) rfl ?_); refine goesL_ (some 12) rfl rfl Try.func13 (by kernel_rfl) rfl #[.int .i64 0, .int .i64 0] rfl (by (try simp only [List.map_toArray, List.map_cons, List.map_nil]); first | done | rfl | (simp only [List.length_drop, List.length_take]; rfl)) ?_; (with_reducible refine (epoch_Next.calls k 0 0 t107 t108 _ A2.out).mono ?_); rintro e w' ⟨rfl, ⟨nd, rfl⟩⟩; refine ⟨_, rfl, ?_⟩) | ((with_reducible refine gate_callee (f := 12) rfl ?_); refine goesL_ (some 16) rfl rfl Try.func12 (by kernel_rfl) rfl #[.int .i64 35] rfl (by (try simp only [List.map_toArray, List.map_cons, List.map_nil]); first | done | rfl | (simp only [List.length_drop, List.length_take]; rfl)) ?_; (with_reducible refine (epoch_Who.calls 35 t109 t110 _ A3.out).mono ?_); rintro e w' ⟨rfl, ⟨nd, rfl⟩⟩; refine ⟨_, rfl, ?_⟩))
            go_ret
            exact ⟨by first | rfl | (simp; done) | (simp [*]; done), by repeat (first | exact Drawn0.refl _ | apply Drawn0.step)⟩
        · rw [if_neg c7] at H
          have c7b0 : (t107 == 16) = false := beq_eq_false_iff_ne.mpr c7
          have c7b1 : (t107 != 16) = true := bne_iff_ne.mpr c7
          obtain rfl := Option.some.inj H
          go_enter Try.func17, Try.ntmps17
          go_wp2_with (first | ((with_reducible refine gate_callee (f := 13) rfl ?_); refine goesL_ (some 8) rfl rfl Try.func13 (by kernel_rfl) rfl #[.int .i64 3, .int .i64 0] rfl (by (try simp only [List.map_toArray, List.map_cons, List.map_nil]); first | done | rfl | (simp only [List.length_drop, List.length_take]; rfl)) ?_; (with_reducible refine (epoch_Next.calls k 3 0 t105 t106 _ A1.out).mono ?_); rintro e w' ⟨rfl, ⟨nd, rfl⟩⟩; refine ⟨_, rfl, ?_⟩) | ((with_reducible refine gate_callee (f := 13) rfl ?_); refine goesL_ (some 12) rfl rfl Try.func13 (by kernel_rfl) rfl #[.int .i64 0, .int .i64 0] rfl (by (try simp only [List.map_toArray, List.map_cons, List.map_nil]); first | done | rfl | (simp only [List.length_drop, List.length_take]; rfl)) ?_; (with_reducible refine (epoch_Next.calls k 0 0 t107 t108 _ A2.out).mono ?_); rintro e w' ⟨rfl, ⟨nd, rfl⟩⟩; refine ⟨_, rfl, ?_⟩) | ((with_reducible refine gate_callee (f := 12) rfl ?_); refine goesL_ (some 16) rfl rfl Try.func12 (by kernel_rfl) rfl #[.int .i64 35] rfl (by (try simp only [List.map_toArray, List.map_cons, List.map_nil]); first | done | rfl | (simp only [List.length_drop, List.length_take]; rfl)) ?_; (with_reducible refine (epoch_Who.calls 35 t109 t110 _ A3.out).mono ?_); rintro e w' ⟨rfl, ⟨nd, rfl⟩⟩; refine ⟨_, rfl, ?_⟩))
          go_ret
          exact ⟨by first | rfl | (simp; done) | (simp [*]; done), by repeat (first | exact Drawn0.refl _ | apply Drawn0.step)⟩
      · rw [if_neg c6] at H
        have c6b0 : (t108 == 0) = false := beq_eq_false_iff_ne.mpr c6
        have c6b1 : (t108 != 0) = true := bne_iff_ne.mpr c6
        obtain rfl := Option.some.inj H
        go_enter Try.func17, Try.ntmps17
        go_wp2_with (first | ((with_reducible refine gate_callee (f := 13) rfl ?_); refine goesL_ (some 8) rfl rfl Try.func13 (by kernel_rfl) rfl #[.int .i64 3, .int .i64 0] rfl (by (try simp only [List.map_toArray, List.map_cons, List.map_nil]); first | done | rfl | (simp only [List.length_drop, List.length_take]; rfl)) ?_; (with_reducible refine (epoch_Next.calls k 3 0 t105 t106 _ A1.out).mono ?_); rintro e w' ⟨rfl, ⟨nd, rfl⟩⟩; refine ⟨_, rfl, ?_⟩) | ((with_reducible refine gate_callee (f := 13) rfl ?_); refine goesL_ (some 12) rfl rfl Try.func13 (by kernel_rfl) rfl #[.int .i64 0, .int .i64 0] rfl (by (try simp only [List.map_toArray, List.map_cons, List.map_nil]); first | done | rfl | (simp only [List.length_drop, List.length_take]; rfl)) ?_; (with_reducible refine (epoch_Next.calls k 0 0 t107 t108 _ A2.out).mono ?_); rintro e w' ⟨rfl, ⟨nd, rfl⟩⟩; refine ⟨_, rfl, ?_⟩) | ((with_reducible refine gate_callee (f := 12) rfl ?_); refine goesL_ (some 16) rfl rfl Try.func12 (by kernel_rfl) rfl #[.int .i64 35] rfl (by (try simp only [List.map_toArray, List.map_cons, List.map_nil]); first | done | rfl | (simp only [List.length_drop, List.length_take]; rfl)) ?_; (with_reducible refine (epoch_Who.calls 35 t109 t110 _ A3.out).mono ?_); rintro e w' ⟨rfl, ⟨nd, rfl⟩⟩; refine ⟨_, rfl, ?_⟩))
        go_ret
        exact ⟨by first | rfl | (simp; done) | (simp [*]; done), by repeat (first | exact Drawn0.refl _ | apply Drawn0.step)⟩
    · rw [if_neg c5] at H
      have c5b0 : (t105 == 3) = false := beq_eq_false_iff_ne.mpr c5
      have c5b1 : (t105 != 3) = true := bne_iff_ne.mpr c5
      obtain rfl := Option.some.inj H
      go_enter Try.func17, Try.ntmps17
      go_wp2_with (first | ((with_reducible refine gate_callee (f := 13) rfl ?_); refine goesL_ (some 8) rfl rfl Try.func13 (by kernel_rfl) rfl #[.int .i64 3, .int .i64 0] rfl (by (try simp only [List.map_toArray, List.map_cons, List.map_nil]); first | done | rfl | (simp only [List.length_drop, List.length_take]; rfl)) ?_; (with_reducible refine (epoch_Next.calls k 3 0 t105 t106 _ A1.out).mono ?_); rintro e w' ⟨rfl, ⟨nd, rfl⟩⟩; refine ⟨_, rfl, ?_⟩) | ((with_reducible refine gate_callee (f := 13) rfl ?_); refine goesL_ (some 12) rfl rfl Try.func13 (by kernel_rfl) rfl #[.int .i64 0, .int .i64 0] rfl (by (try simp only [List.map_toArray, List.map_cons, List.map_nil]); first | done | rfl | (simp only [List.length_drop, List.length_take]; rfl)) ?_; (with_reducible refine (epoch_Next.calls k 0 0 t107 t108 _ A2.out).mono ?_); rintro e w' ⟨rfl, ⟨nd, rfl⟩⟩; refine ⟨_, rfl, ?_⟩) | ((with_reducible refine gate_callee (f := 12) rfl ?_); refine goesL_ (some 16) rfl rfl Try.func12 (by kernel_rfl) rfl #[.int .i64 35] rfl (by (try simp only [List.map_toArray, List.map_cons, List.map_nil]); first | done | rfl | (simp only [List.length_drop, List.length_take]; rfl)) ?_; (with_reducible refine (epoch_Who.calls 35 t109 t110 _ A3.out).mono ?_); rintro e w' ⟨rfl, ⟨nd, rfl⟩⟩; refine ⟨_, rfl, ?_⟩))
      go_ret
      exact ⟨by first | rfl | (simp; done) | (simp [*]; done), by repeat (first | exact Drawn0.refl _ | apply Drawn0.step)⟩
  · rw [if_neg c4] at H
    have c4b0 : (t106 == 0) = false := beq_eq_false_iff_ne.mpr c4
    have c4b1 : (t106 != 0) = true := bne_iff_ne.mpr c4
    obtain rfl := Option.some.inj H
    go_enter Try.func17, Try.ntmps17
    go_wp2_with (first | ((with_reducible refine gate_callee (f := 13) rfl ?_); refine goesL_ (some 8) rfl rfl Try.func13 (by kernel_rfl) rfl #[.int .i64 3, .int .i64 0] rfl (by (try simp only [List.map_toArray, List.map_cons, List.map_nil]); first | done | rfl | (simp only [List.length_drop, List.length_take]; rfl)) ?_; (with_reducible refine (epoch_Next.calls k 3 0 t105 t106 _ A1.out).mono ?_); rintro e w' ⟨rfl, ⟨nd, rfl⟩⟩; refine ⟨_, rfl, ?_⟩) | ((with_reducible refine gate_callee (f := 13) rfl ?_); refine goesL_ (some 12) rfl rfl Try.func13 (by kernel_rfl) rfl #[.int .i64 0, .int .i64 0] rfl (by (try simp only [List.map_toArray, List.map_cons, List.map_nil]); first | done | rfl | (simp only [List.length_drop, List.length_take]; rfl)) ?_; (with_reducible refine (epoch_Next.calls k 0 0 t107 t108 _ A2.out).mono ?_); rintro e w' ⟨rfl, ⟨nd, rfl⟩⟩; refine ⟨_, rfl, ?_⟩) | ((with_reducible refine gate_callee (f := 12) rfl ?_); refine goesL_ (some 16) rfl rfl Try.func12 (by kernel_rfl) rfl #[.int .i64 35] rfl (by (try simp only [List.map_toArray, List.map_cons, List.map_nil]); first | done | rfl | (simp only [List.length_drop, List.length_take]; rfl)) ?_; (with_reducible refine (epoch_Who.calls 35 t109 t110 _ A3.out).mono ?_); rintro e w' ⟨rfl, ⟨nd, rfl⟩⟩; refine ⟨_, rfl, ?_⟩))
    go_ret
    exact ⟨by first | rfl | (simp; done) | (simp [*]; done), by repeat (first | exact Drawn0.refl _ | apply Drawn0.step)⟩

/-! ### bellwetherlaw14_EpochOnce: function 4 -/
def bellwetherlaw14_EpochOnce.j0 : Nat → Int → Int → Int → Int → Int → Int → Int → Int → Int → Int → Bool → Option (Bool)
  | 0, _, _, _, _, _, _, _, _, _, _, _ => none
  | k + 1, x0, x1, x2, x3, x9, x11, x13, x15, x17, x19, x92 => if x92 = true then (some false) else (if x9 > x2 then (if x9 ≤ (wrap64 (x2 + 16)) then (if x17 = x0 then (if x19 = x1 then (if x9 = x11 then (if x0 = x1 then (if x13 = (wrap64 (x9 + 16)) then (if x2 > x3 then ((epoch_Check.f x9).bind fun t125 => (if t125 = 0 then ((bellwetherlaw14_wakes.f k).bind fun t126 => (some t126)) else (some false))) else (if x9 ≤ x15 then ((epoch_Check.f x9).bind fun t127 => (if t127 = 0 then ((bellwetherlaw14_wakes.f k).bind fun t128 => (some t128)) else (some false))) else (some false))) else (some false)) else (some false)) else (if x13 = (wrap64 (x9 + 16)) then (if x2 > x3 then ((epoch_Check.f x9).bind fun t129 => (if t129 = 0 then ((bellwetherlaw14_wakes.f k).bind fun t130 => (some t130)) else (some false))) else (if x9 ≤ x15 then ((epoch_Check.f x9).bind fun t131 => (if t131 = 0 then ((bellwetherlaw14_wakes.f k).bind fun t132 => (some t132)) else (some false))) else (some false))) else (some false))) else (some false)) else (some false)) else (some false)) else (some false))
def bellwetherlaw14_EpochOnce.f (k : Nat) (a0 : Int) (a1 : Int) (a2 : Int) (a3 : Int) : Option (Bool) := (epoch_Next.f k (wrap64 (Int.tmod (IntKind.u64.wrap (a0)) 8)) (wrap64 (Int.tmod (IntKind.u64.wrap (a2)) 1073741784))).bind fun bt113 => ((epoch_Next.f k (wrap64 (Int.tmod (IntKind.u64.wrap (a1)) 8)) (wrap64 (Int.tmod (IntKind.u64.wrap (a3)) 1073741784))).bind fun bt115 => ((epoch_Next.f k (wrap64 (Int.tmod (IntKind.u64.wrap (a0)) 8)) bt113.1).bind fun bt117 => ((epoch_Next.f k (wrap64 (Int.tmod (IntKind.u64.wrap (a0)) 8)) (wrap64 (Int.tmod (IntKind.u64.wrap (a3)) 1073741784))).bind fun bt119 => ((epoch_Who.f bt113.1).bind fun bt121 => ((epoch_Who.f bt115.1).bind fun bt123 => (if bt113.2 = 0 then (if bt115.2 = 0 then (if bt117.2 = 0 then (if bt119.2 = 0 then (if bt121.2 = 0 then (bellwetherlaw14_EpochOnce.j0 k (wrap64 (Int.tmod (IntKind.u64.wrap (a0)) 8)) (wrap64 (Int.tmod (IntKind.u64.wrap (a1)) 8)) (wrap64 (Int.tmod (IntKind.u64.wrap (a2)) 1073741784)) (wrap64 (Int.tmod (IntKind.u64.wrap (a3)) 1073741784)) bt113.1 bt115.1 bt117.1 bt119.1 bt121.1 bt123.1 (bt123.2 != 0)) else (bellwetherlaw14_EpochOnce.j0 k (wrap64 (Int.tmod (IntKind.u64.wrap (a0)) 8)) (wrap64 (Int.tmod (IntKind.u64.wrap (a1)) 8)) (wrap64 (Int.tmod (IntKind.u64.wrap (a2)) 1073741784)) (wrap64 (Int.tmod (IntKind.u64.wrap (a3)) 1073741784)) bt113.1 bt115.1 bt117.1 bt119.1 bt121.1 bt123.1 true)) else (bellwetherlaw14_EpochOnce.j0 k (wrap64 (Int.tmod (IntKind.u64.wrap (a0)) 8)) (wrap64 (Int.tmod (IntKind.u64.wrap (a1)) 8)) (wrap64 (Int.tmod (IntKind.u64.wrap (a2)) 1073741784)) (wrap64 (Int.tmod (IntKind.u64.wrap (a3)) 1073741784)) bt113.1 bt115.1 bt117.1 bt119.1 bt121.1 bt123.1 true)) else (bellwetherlaw14_EpochOnce.j0 k (wrap64 (Int.tmod (IntKind.u64.wrap (a0)) 8)) (wrap64 (Int.tmod (IntKind.u64.wrap (a1)) 8)) (wrap64 (Int.tmod (IntKind.u64.wrap (a2)) 1073741784)) (wrap64 (Int.tmod (IntKind.u64.wrap (a3)) 1073741784)) bt113.1 bt115.1 bt117.1 bt119.1 bt121.1 bt123.1 true)) else (bellwetherlaw14_EpochOnce.j0 k (wrap64 (Int.tmod (IntKind.u64.wrap (a0)) 8)) (wrap64 (Int.tmod (IntKind.u64.wrap (a1)) 8)) (wrap64 (Int.tmod (IntKind.u64.wrap (a2)) 1073741784)) (wrap64 (Int.tmod (IntKind.u64.wrap (a3)) 1073741784)) bt113.1 bt115.1 bt117.1 bt119.1 bt121.1 bt123.1 true)) else (bellwetherlaw14_EpochOnce.j0 k (wrap64 (Int.tmod (IntKind.u64.wrap (a0)) 8)) (wrap64 (Int.tmod (IntKind.u64.wrap (a1)) 8)) (wrap64 (Int.tmod (IntKind.u64.wrap (a2)) 1073741784)) (wrap64 (Int.tmod (IntKind.u64.wrap (a3)) 1073741784)) bt113.1 bt115.1 bt117.1 bt119.1 bt121.1 bt123.1 true)))))))
theorem bellwetherlaw14_EpochOnce.mono_l : ∀ k, (∀ y0 y1 y2 y3 y4 y5 y6 y7 y8 y9 y10, LeO (bellwetherlaw14_EpochOnce.j0 k y0 y1 y2 y3 y4 y5 y6 y7 y8 y9 y10) (bellwetherlaw14_EpochOnce.j0 (k + 1) y0 y1 y2 y3 y4 y5 y6 y7 y8 y9 y10))
  | 0 => fun _ _ _ _ _ _ _ _ _ _ _ r h => by simp [bellwetherlaw14_EpochOnce.j0] at h
  | k + 1 => by
    have ih0 := bellwetherlaw14_EpochOnce.mono_l k
    · intro y0 y1 y2 y3 y4 y5 y6 y7 y8 y9 y10
      unfold bellwetherlaw14_EpochOnce.j0
      repeat' first
      | (with_reducible exact ih0 _ _ _ _ _ _ _ _ _ _ _)
      | (with_reducible exact bellwetherlaw14_wakes.mono _)
      | (with_reducible exact epoch_Next.mono _ _ _)
      | (with_reducible exact LeO.refl _)
      | (with_reducible exact LeO.none _)
      | (with_reducible refine LeO.ite ?_ ?_)
      | (with_reducible refine LeO.bind ?_ (fun _ => ?_))
      | exact ih0 _ _ _ _ _ _ _ _ _ _ _
      | exact bellwetherlaw14_wakes.mono _
      | exact epoch_Next.mono _ _ _
      | exact LeO.none _
      | refine LeO.ite ?_ ?_
      | refine LeO.bind ?_ (fun _ => ?_)
theorem bellwetherlaw14_EpochOnce.mono : ∀ a0 a1 a2 a3 k, LeO (bellwetherlaw14_EpochOnce.f k a0 a1 a2 a3) (bellwetherlaw14_EpochOnce.f (k + 1) a0 a1 a2 a3) := by
  intro a0 a1 a2 a3 k
  have ih0 := bellwetherlaw14_EpochOnce.mono_l k
  unfold bellwetherlaw14_EpochOnce.f
  repeat' first
      | (with_reducible exact ih0 _ _ _ _ _ _ _ _ _ _ _)
      | (with_reducible exact bellwetherlaw14_wakes.mono _)
      | (with_reducible exact epoch_Next.mono _ _ _)
      | (with_reducible exact LeO.refl _)
      | (with_reducible exact LeO.none _)
      | (with_reducible refine LeO.ite ?_ ?_)
      | (with_reducible refine LeO.bind ?_ (fun _ => ?_))
      | exact ih0 _ _ _ _ _ _ _ _ _ _ _
      | exact bellwetherlaw14_wakes.mono _
      | exact epoch_Next.mono _ _ _
      | exact LeO.none _
      | refine LeO.ite ?_ ?_
      | refine LeO.bind ?_ (fun _ => ?_)
set_option maxHeartbeats 8000000 in
set_option maxRecDepth 100000 in
theorem bellwetherlaw14_EpochOnce.calls (k : Nat) (a0 : Int) (a1 : Int) (a2 : Int) (a3 : Int) (r : Bool) (w : World) (h : bellwetherlaw14_EpochOnce.f k a0 a1 a2 a3 = some r) :
    Calls Try.prog 4 #[.int .i64 a0, .int .i64 a1, .int .i64 a2, .int .i64 a3] w fun e w' => e = .returned (.bool r) ∧ Drawn0 w w' := by
  have H : ((epoch_Next.f k (wrap64 (Int.tmod (IntKind.u64.wrap (a0)) 8)) (wrap64 (Int.tmod (IntKind.u64.wrap (a2)) 1073741784))).bind fun bt113 => ((epoch_Next.f k (wrap64 (Int.tmod (IntKind.u64.wrap (a1)) 8)) (wrap64 (Int.tmod (IntKind.u64.wrap (a3)) 1073741784))).bind fun bt115 => ((epoch_Next.f k (wrap64 (Int.tmod (IntKind.u64.wrap (a0)) 8)) bt113.1).bind fun bt117 => ((epoch_Next.f k (wrap64 (Int.tmod (IntKind.u64.wrap (a0)) 8)) (wrap64 (Int.tmod (IntKind.u64.wrap (a3)) 1073741784))).bind fun bt119 => ((epoch_Who.f bt113.1).bind fun bt121 => ((epoch_Who.f bt115.1).bind fun bt123 => (if bt113.2 = 0 then (if bt115.2 = 0 then (if bt117.2 = 0 then (if bt119.2 = 0 then (if bt121.2 = 0 then (bellwetherlaw14_EpochOnce.j0 k (wrap64 (Int.tmod (IntKind.u64.wrap (a0)) 8)) (wrap64 (Int.tmod (IntKind.u64.wrap (a1)) 8)) (wrap64 (Int.tmod (IntKind.u64.wrap (a2)) 1073741784)) (wrap64 (Int.tmod (IntKind.u64.wrap (a3)) 1073741784)) bt113.1 bt115.1 bt117.1 bt119.1 bt121.1 bt123.1 (bt123.2 != 0)) else (bellwetherlaw14_EpochOnce.j0 k (wrap64 (Int.tmod (IntKind.u64.wrap (a0)) 8)) (wrap64 (Int.tmod (IntKind.u64.wrap (a1)) 8)) (wrap64 (Int.tmod (IntKind.u64.wrap (a2)) 1073741784)) (wrap64 (Int.tmod (IntKind.u64.wrap (a3)) 1073741784)) bt113.1 bt115.1 bt117.1 bt119.1 bt121.1 bt123.1 true)) else (bellwetherlaw14_EpochOnce.j0 k (wrap64 (Int.tmod (IntKind.u64.wrap (a0)) 8)) (wrap64 (Int.tmod (IntKind.u64.wrap (a1)) 8)) (wrap64 (Int.tmod (IntKind.u64.wrap (a2)) 1073741784)) (wrap64 (Int.tmod (IntKind.u64.wrap (a3)) 1073741784)) bt113.1 bt115.1 bt117.1 bt119.1 bt121.1 bt123.1 true)) else (bellwetherlaw14_EpochOnce.j0 k (wrap64 (Int.tmod (IntKind.u64.wrap (a0)) 8)) (wrap64 (Int.tmod (IntKind.u64.wrap (a1)) 8)) (wrap64 (Int.tmod (IntKind.u64.wrap (a2)) 1073741784)) (wrap64 (Int.tmod (IntKind.u64.wrap (a3)) 1073741784)) bt113.1 bt115.1 bt117.1 bt119.1 bt121.1 bt123.1 true)) else (bellwetherlaw14_EpochOnce.j0 k (wrap64 (Int.tmod (IntKind.u64.wrap (a0)) 8)) (wrap64 (Int.tmod (IntKind.u64.wrap (a1)) 8)) (wrap64 (Int.tmod (IntKind.u64.wrap (a2)) 1073741784)) (wrap64 (Int.tmod (IntKind.u64.wrap (a3)) 1073741784)) bt113.1 bt115.1 bt117.1 bt119.1 bt121.1 bt123.1 true)) else (bellwetherlaw14_EpochOnce.j0 k (wrap64 (Int.tmod (IntKind.u64.wrap (a0)) 8)) (wrap64 (Int.tmod (IntKind.u64.wrap (a1)) 8)) (wrap64 (Int.tmod (IntKind.u64.wrap (a2)) 1073741784)) (wrap64 (Int.tmod (IntKind.u64.wrap (a3)) 1073741784)) bt113.1 bt115.1 bt117.1 bt119.1 bt121.1 bt123.1 true)))))))) = some r := h
  clear h
  replace H := Option.bind_eq_some_iff.mp H
  obtain ⟨⟨t113, t114⟩, A50, H⟩ := H
  replace H : ((epoch_Next.f k (wrap64 (Int.tmod (IntKind.u64.wrap (a1)) 8)) (wrap64 (Int.tmod (IntKind.u64.wrap (a3)) 1073741784))).bind fun bt115 => ((epoch_Next.f k (wrap64 (Int.tmod (IntKind.u64.wrap (a0)) 8)) t113).bind fun bt117 => ((epoch_Next.f k (wrap64 (Int.tmod (IntKind.u64.wrap (a0)) 8)) (wrap64 (Int.tmod (IntKind.u64.wrap (a3)) 1073741784))).bind fun bt119 => ((epoch_Who.f t113).bind fun bt121 => ((epoch_Who.f bt115.1).bind fun bt123 => (if t114 = 0 then (if bt115.2 = 0 then (if bt117.2 = 0 then (if bt119.2 = 0 then (if bt121.2 = 0 then (bellwetherlaw14_EpochOnce.j0 k (wrap64 (Int.tmod (IntKind.u64.wrap (a0)) 8)) (wrap64 (Int.tmod (IntKind.u64.wrap (a1)) 8)) (wrap64 (Int.tmod (IntKind.u64.wrap (a2)) 1073741784)) (wrap64 (Int.tmod (IntKind.u64.wrap (a3)) 1073741784)) t113 bt115.1 bt117.1 bt119.1 bt121.1 bt123.1 (bt123.2 != 0)) else (bellwetherlaw14_EpochOnce.j0 k (wrap64 (Int.tmod (IntKind.u64.wrap (a0)) 8)) (wrap64 (Int.tmod (IntKind.u64.wrap (a1)) 8)) (wrap64 (Int.tmod (IntKind.u64.wrap (a2)) 1073741784)) (wrap64 (Int.tmod (IntKind.u64.wrap (a3)) 1073741784)) t113 bt115.1 bt117.1 bt119.1 bt121.1 bt123.1 true)) else (bellwetherlaw14_EpochOnce.j0 k (wrap64 (Int.tmod (IntKind.u64.wrap (a0)) 8)) (wrap64 (Int.tmod (IntKind.u64.wrap (a1)) 8)) (wrap64 (Int.tmod (IntKind.u64.wrap (a2)) 1073741784)) (wrap64 (Int.tmod (IntKind.u64.wrap (a3)) 1073741784)) t113 bt115.1 bt117.1 bt119.1 bt121.1 bt123.1 true)) else (bellwetherlaw14_EpochOnce.j0 k (wrap64 (Int.tmod (IntKind.u64.wrap (a0)) 8)) (wrap64 (Int.tmod (IntKind.u64.wrap (a1)) 8)) (wrap64 (Int.tmod (IntKind.u64.wrap (a2)) 1073741784)) (wrap64 (Int.tmod (IntKind.u64.wrap (a3)) 1073741784)) t113 bt115.1 bt117.1 bt119.1 bt121.1 bt123.1 true)) else (bellwetherlaw14_EpochOnce.j0 k (wrap64 (Int.tmod (IntKind.u64.wrap (a0)) 8)) (wrap64 (Int.tmod (IntKind.u64.wrap (a1)) 8)) (wrap64 (Int.tmod (IntKind.u64.wrap (a2)) 1073741784)) (wrap64 (Int.tmod (IntKind.u64.wrap (a3)) 1073741784)) t113 bt115.1 bt117.1 bt119.1 bt121.1 bt123.1 true)) else (bellwetherlaw14_EpochOnce.j0 k (wrap64 (Int.tmod (IntKind.u64.wrap (a0)) 8)) (wrap64 (Int.tmod (IntKind.u64.wrap (a1)) 8)) (wrap64 (Int.tmod (IntKind.u64.wrap (a2)) 1073741784)) (wrap64 (Int.tmod (IntKind.u64.wrap (a3)) 1073741784)) t113 bt115.1 bt117.1 bt119.1 bt121.1 bt123.1 true))))))) = some r := H
  have A5 := Aside0.mk A50
  clear A50
  replace H := Option.bind_eq_some_iff.mp H
  obtain ⟨⟨t115, t116⟩, A60, H⟩ := H
  replace H : ((epoch_Next.f k (wrap64 (Int.tmod (IntKind.u64.wrap (a0)) 8)) t113).bind fun bt117 => ((epoch_Next.f k (wrap64 (Int.tmod (IntKind.u64.wrap (a0)) 8)) (wrap64 (Int.tmod (IntKind.u64.wrap (a3)) 1073741784))).bind fun bt119 => ((epoch_Who.f t113).bind fun bt121 => ((epoch_Who.f t115).bind fun bt123 => (if t114 = 0 then (if t116 = 0 then (if bt117.2 = 0 then (if bt119.2 = 0 then (if bt121.2 = 0 then (bellwetherlaw14_EpochOnce.j0 k (wrap64 (Int.tmod (IntKind.u64.wrap (a0)) 8)) (wrap64 (Int.tmod (IntKind.u64.wrap (a1)) 8)) (wrap64 (Int.tmod (IntKind.u64.wrap (a2)) 1073741784)) (wrap64 (Int.tmod (IntKind.u64.wrap (a3)) 1073741784)) t113 t115 bt117.1 bt119.1 bt121.1 bt123.1 (bt123.2 != 0)) else (bellwetherlaw14_EpochOnce.j0 k (wrap64 (Int.tmod (IntKind.u64.wrap (a0)) 8)) (wrap64 (Int.tmod (IntKind.u64.wrap (a1)) 8)) (wrap64 (Int.tmod (IntKind.u64.wrap (a2)) 1073741784)) (wrap64 (Int.tmod (IntKind.u64.wrap (a3)) 1073741784)) t113 t115 bt117.1 bt119.1 bt121.1 bt123.1 true)) else (bellwetherlaw14_EpochOnce.j0 k (wrap64 (Int.tmod (IntKind.u64.wrap (a0)) 8)) (wrap64 (Int.tmod (IntKind.u64.wrap (a1)) 8)) (wrap64 (Int.tmod (IntKind.u64.wrap (a2)) 1073741784)) (wrap64 (Int.tmod (IntKind.u64.wrap (a3)) 1073741784)) t113 t115 bt117.1 bt119.1 bt121.1 bt123.1 true)) else (bellwetherlaw14_EpochOnce.j0 k (wrap64 (Int.tmod (IntKind.u64.wrap (a0)) 8)) (wrap64 (Int.tmod (IntKind.u64.wrap (a1)) 8)) (wrap64 (Int.tmod (IntKind.u64.wrap (a2)) 1073741784)) (wrap64 (Int.tmod (IntKind.u64.wrap (a3)) 1073741784)) t113 t115 bt117.1 bt119.1 bt121.1 bt123.1 true)) else (bellwetherlaw14_EpochOnce.j0 k (wrap64 (Int.tmod (IntKind.u64.wrap (a0)) 8)) (wrap64 (Int.tmod (IntKind.u64.wrap (a1)) 8)) (wrap64 (Int.tmod (IntKind.u64.wrap (a2)) 1073741784)) (wrap64 (Int.tmod (IntKind.u64.wrap (a3)) 1073741784)) t113 t115 bt117.1 bt119.1 bt121.1 bt123.1 true)) else (bellwetherlaw14_EpochOnce.j0 k (wrap64 (Int.tmod (IntKind.u64.wrap (a0)) 8)) (wrap64 (Int.tmod (IntKind.u64.wrap (a1)) 8)) (wrap64 (Int.tmod (IntKind.u64.wrap (a2)) 1073741784)) (wrap64 (Int.tmod (IntKind.u64.wrap (a3)) 1073741784)) t113 t115 bt117.1 bt119.1 bt121.1 bt123.1 true)))))) = some r := H
  have A6 := Aside0.mk A60
  clear A60
  replace H := Option.bind_eq_some_iff.mp H
  obtain ⟨⟨t117, t118⟩, A70, H⟩ := H
  replace H : ((epoch_Next.f k (wrap64 (Int.tmod (IntKind.u64.wrap (a0)) 8)) (wrap64 (Int.tmod (IntKind.u64.wrap (a3)) 1073741784))).bind fun bt119 => ((epoch_Who.f t113).bind fun bt121 => ((epoch_Who.f t115).bind fun bt123 => (if t114 = 0 then (if t116 = 0 then (if t118 = 0 then (if bt119.2 = 0 then (if bt121.2 = 0 then (bellwetherlaw14_EpochOnce.j0 k (wrap64 (Int.tmod (IntKind.u64.wrap (a0)) 8)) (wrap64 (Int.tmod (IntKind.u64.wrap (a1)) 8)) (wrap64 (Int.tmod (IntKind.u64.wrap (a2)) 1073741784)) (wrap64 (Int.tmod (IntKind.u64.wrap (a3)) 1073741784)) t113 t115 t117 bt119.1 bt121.1 bt123.1 (bt123.2 != 0)) else (bellwetherlaw14_EpochOnce.j0 k (wrap64 (Int.tmod (IntKind.u64.wrap (a0)) 8)) (wrap64 (Int.tmod (IntKind.u64.wrap (a1)) 8)) (wrap64 (Int.tmod (IntKind.u64.wrap (a2)) 1073741784)) (wrap64 (Int.tmod (IntKind.u64.wrap (a3)) 1073741784)) t113 t115 t117 bt119.1 bt121.1 bt123.1 true)) else (bellwetherlaw14_EpochOnce.j0 k (wrap64 (Int.tmod (IntKind.u64.wrap (a0)) 8)) (wrap64 (Int.tmod (IntKind.u64.wrap (a1)) 8)) (wrap64 (Int.tmod (IntKind.u64.wrap (a2)) 1073741784)) (wrap64 (Int.tmod (IntKind.u64.wrap (a3)) 1073741784)) t113 t115 t117 bt119.1 bt121.1 bt123.1 true)) else (bellwetherlaw14_EpochOnce.j0 k (wrap64 (Int.tmod (IntKind.u64.wrap (a0)) 8)) (wrap64 (Int.tmod (IntKind.u64.wrap (a1)) 8)) (wrap64 (Int.tmod (IntKind.u64.wrap (a2)) 1073741784)) (wrap64 (Int.tmod (IntKind.u64.wrap (a3)) 1073741784)) t113 t115 t117 bt119.1 bt121.1 bt123.1 true)) else (bellwetherlaw14_EpochOnce.j0 k (wrap64 (Int.tmod (IntKind.u64.wrap (a0)) 8)) (wrap64 (Int.tmod (IntKind.u64.wrap (a1)) 8)) (wrap64 (Int.tmod (IntKind.u64.wrap (a2)) 1073741784)) (wrap64 (Int.tmod (IntKind.u64.wrap (a3)) 1073741784)) t113 t115 t117 bt119.1 bt121.1 bt123.1 true)) else (bellwetherlaw14_EpochOnce.j0 k (wrap64 (Int.tmod (IntKind.u64.wrap (a0)) 8)) (wrap64 (Int.tmod (IntKind.u64.wrap (a1)) 8)) (wrap64 (Int.tmod (IntKind.u64.wrap (a2)) 1073741784)) (wrap64 (Int.tmod (IntKind.u64.wrap (a3)) 1073741784)) t113 t115 t117 bt119.1 bt121.1 bt123.1 true))))) = some r := H
  have A7 := Aside0.mk A70
  clear A70
  replace H := Option.bind_eq_some_iff.mp H
  obtain ⟨⟨t119, t120⟩, A80, H⟩ := H
  replace H : ((epoch_Who.f t113).bind fun bt121 => ((epoch_Who.f t115).bind fun bt123 => (if t114 = 0 then (if t116 = 0 then (if t118 = 0 then (if t120 = 0 then (if bt121.2 = 0 then (bellwetherlaw14_EpochOnce.j0 k (wrap64 (Int.tmod (IntKind.u64.wrap (a0)) 8)) (wrap64 (Int.tmod (IntKind.u64.wrap (a1)) 8)) (wrap64 (Int.tmod (IntKind.u64.wrap (a2)) 1073741784)) (wrap64 (Int.tmod (IntKind.u64.wrap (a3)) 1073741784)) t113 t115 t117 t119 bt121.1 bt123.1 (bt123.2 != 0)) else (bellwetherlaw14_EpochOnce.j0 k (wrap64 (Int.tmod (IntKind.u64.wrap (a0)) 8)) (wrap64 (Int.tmod (IntKind.u64.wrap (a1)) 8)) (wrap64 (Int.tmod (IntKind.u64.wrap (a2)) 1073741784)) (wrap64 (Int.tmod (IntKind.u64.wrap (a3)) 1073741784)) t113 t115 t117 t119 bt121.1 bt123.1 true)) else (bellwetherlaw14_EpochOnce.j0 k (wrap64 (Int.tmod (IntKind.u64.wrap (a0)) 8)) (wrap64 (Int.tmod (IntKind.u64.wrap (a1)) 8)) (wrap64 (Int.tmod (IntKind.u64.wrap (a2)) 1073741784)) (wrap64 (Int.tmod (IntKind.u64.wrap (a3)) 1073741784)) t113 t115 t117 t119 bt121.1 bt123.1 true)) else (bellwetherlaw14_EpochOnce.j0 k (wrap64 (Int.tmod (IntKind.u64.wrap (a0)) 8)) (wrap64 (Int.tmod (IntKind.u64.wrap (a1)) 8)) (wrap64 (Int.tmod (IntKind.u64.wrap (a2)) 1073741784)) (wrap64 (Int.tmod (IntKind.u64.wrap (a3)) 1073741784)) t113 t115 t117 t119 bt121.1 bt123.1 true)) else (bellwetherlaw14_EpochOnce.j0 k (wrap64 (Int.tmod (IntKind.u64.wrap (a0)) 8)) (wrap64 (Int.tmod (IntKind.u64.wrap (a1)) 8)) (wrap64 (Int.tmod (IntKind.u64.wrap (a2)) 1073741784)) (wrap64 (Int.tmod (IntKind.u64.wrap (a3)) 1073741784)) t113 t115 t117 t119 bt121.1 bt123.1 true)) else (bellwetherlaw14_EpochOnce.j0 k (wrap64 (Int.tmod (IntKind.u64.wrap (a0)) 8)) (wrap64 (Int.tmod (IntKind.u64.wrap (a1)) 8)) (wrap64 (Int.tmod (IntKind.u64.wrap (a2)) 1073741784)) (wrap64 (Int.tmod (IntKind.u64.wrap (a3)) 1073741784)) t113 t115 t117 t119 bt121.1 bt123.1 true)))) = some r := H
  have A8 := Aside0.mk A80
  clear A80
  replace H := Option.bind_eq_some_iff.mp H
  obtain ⟨⟨t121, t122⟩, A90, H⟩ := H
  replace H : ((epoch_Who.f t115).bind fun bt123 => (if t114 = 0 then (if t116 = 0 then (if t118 = 0 then (if t120 = 0 then (if t122 = 0 then (bellwetherlaw14_EpochOnce.j0 k (wrap64 (Int.tmod (IntKind.u64.wrap (a0)) 8)) (wrap64 (Int.tmod (IntKind.u64.wrap (a1)) 8)) (wrap64 (Int.tmod (IntKind.u64.wrap (a2)) 1073741784)) (wrap64 (Int.tmod (IntKind.u64.wrap (a3)) 1073741784)) t113 t115 t117 t119 t121 bt123.1 (bt123.2 != 0)) else (bellwetherlaw14_EpochOnce.j0 k (wrap64 (Int.tmod (IntKind.u64.wrap (a0)) 8)) (wrap64 (Int.tmod (IntKind.u64.wrap (a1)) 8)) (wrap64 (Int.tmod (IntKind.u64.wrap (a2)) 1073741784)) (wrap64 (Int.tmod (IntKind.u64.wrap (a3)) 1073741784)) t113 t115 t117 t119 t121 bt123.1 true)) else (bellwetherlaw14_EpochOnce.j0 k (wrap64 (Int.tmod (IntKind.u64.wrap (a0)) 8)) (wrap64 (Int.tmod (IntKind.u64.wrap (a1)) 8)) (wrap64 (Int.tmod (IntKind.u64.wrap (a2)) 1073741784)) (wrap64 (Int.tmod (IntKind.u64.wrap (a3)) 1073741784)) t113 t115 t117 t119 t121 bt123.1 true)) else (bellwetherlaw14_EpochOnce.j0 k (wrap64 (Int.tmod (IntKind.u64.wrap (a0)) 8)) (wrap64 (Int.tmod (IntKind.u64.wrap (a1)) 8)) (wrap64 (Int.tmod (IntKind.u64.wrap (a2)) 1073741784)) (wrap64 (Int.tmod (IntKind.u64.wrap (a3)) 1073741784)) t113 t115 t117 t119 t121 bt123.1 true)) else (bellwetherlaw14_EpochOnce.j0 k (wrap64 (Int.tmod (IntKind.u64.wrap (a0)) 8)) (wrap64 (Int.tmod (IntKind.u64.wrap (a1)) 8)) (wrap64 (Int.tmod (IntKind.u64.wrap (a2)) 1073741784)) (wrap64 (Int.tmod (IntKind.u64.wrap (a3)) 1073741784)) t113 t115 t117 t119 t121 bt123.1 true)) else (bellwetherlaw14_EpochOnce.j0 k (wrap64 (Int.tmod (IntKind.u64.wrap (a0)) 8)) (wrap64 (Int.tmod (IntKind.u64.wrap (a1)) 8)) (wrap64 (Int.tmod (IntKind.u64.wrap (a2)) 1073741784)) (wrap64 (Int.tmod (IntKind.u64.wrap (a3)) 1073741784)) t113 t115 t117 t119 t121 bt123.1 true))) = some r := H
  have A9 := Aside0.mk A90
  clear A90
  replace H := Option.bind_eq_some_iff.mp H
  obtain ⟨⟨t123, t124⟩, A100, H⟩ := H
  replace H : (if t114 = 0 then (if t116 = 0 then (if t118 = 0 then (if t120 = 0 then (if t122 = 0 then (bellwetherlaw14_EpochOnce.j0 k (wrap64 (Int.tmod (IntKind.u64.wrap (a0)) 8)) (wrap64 (Int.tmod (IntKind.u64.wrap (a1)) 8)) (wrap64 (Int.tmod (IntKind.u64.wrap (a2)) 1073741784)) (wrap64 (Int.tmod (IntKind.u64.wrap (a3)) 1073741784)) t113 t115 t117 t119 t121 t123 (t124 != 0)) else (bellwetherlaw14_EpochOnce.j0 k (wrap64 (Int.tmod (IntKind.u64.wrap (a0)) 8)) (wrap64 (Int.tmod (IntKind.u64.wrap (a1)) 8)) (wrap64 (Int.tmod (IntKind.u64.wrap (a2)) 1073741784)) (wrap64 (Int.tmod (IntKind.u64.wrap (a3)) 1073741784)) t113 t115 t117 t119 t121 t123 true)) else (bellwetherlaw14_EpochOnce.j0 k (wrap64 (Int.tmod (IntKind.u64.wrap (a0)) 8)) (wrap64 (Int.tmod (IntKind.u64.wrap (a1)) 8)) (wrap64 (Int.tmod (IntKind.u64.wrap (a2)) 1073741784)) (wrap64 (Int.tmod (IntKind.u64.wrap (a3)) 1073741784)) t113 t115 t117 t119 t121 t123 true)) else (bellwetherlaw14_EpochOnce.j0 k (wrap64 (Int.tmod (IntKind.u64.wrap (a0)) 8)) (wrap64 (Int.tmod (IntKind.u64.wrap (a1)) 8)) (wrap64 (Int.tmod (IntKind.u64.wrap (a2)) 1073741784)) (wrap64 (Int.tmod (IntKind.u64.wrap (a3)) 1073741784)) t113 t115 t117 t119 t121 t123 true)) else (bellwetherlaw14_EpochOnce.j0 k (wrap64 (Int.tmod (IntKind.u64.wrap (a0)) 8)) (wrap64 (Int.tmod (IntKind.u64.wrap (a1)) 8)) (wrap64 (Int.tmod (IntKind.u64.wrap (a2)) 1073741784)) (wrap64 (Int.tmod (IntKind.u64.wrap (a3)) 1073741784)) t113 t115 t117 t119 t121 t123 true)) else (bellwetherlaw14_EpochOnce.j0 k (wrap64 (Int.tmod (IntKind.u64.wrap (a0)) 8)) (wrap64 (Int.tmod (IntKind.u64.wrap (a1)) 8)) (wrap64 (Int.tmod (IntKind.u64.wrap (a2)) 1073741784)) (wrap64 (Int.tmod (IntKind.u64.wrap (a3)) 1073741784)) t113 t115 t117 t119 t121 t123 true)) = some r := H
  have A10 := Aside0.mk A100
  clear A100
  have HC11 := Aside0.mk H
  clear H
  go_enter Try.func4, Try.ntmps4
  go_upto_region 8 with (first | ((with_reducible refine gate_callee (f := 13) rfl ?_); refine goesL_ (some 40) rfl rfl Try.func13 (by kernel_rfl) rfl #[.int .i64 (wrap64 (Int.tmod (IntKind.u64.wrap (a0)) 8)), .int .i64 (wrap64 (Int.tmod (IntKind.u64.wrap (a2)) 1073741784))] rfl (by (try simp only [List.map_toArray, List.map_cons, List.map_nil]); first | done | rfl | (simp only [List.length_drop, List.length_take]; rfl)) ?_; (with_reducible refine (epoch_Next.calls k (wrap64 (Int.tmod (IntKind.u64.wrap (a0)) 8)) (wrap64 (Int.tmod (IntKind.u64.wrap (a2)) 1073741784)) t113 t114 _ A5.out).mono ?_); rintro e w' ⟨rfl, ⟨nd, rfl⟩⟩; refine ⟨_, rfl, ?_⟩) | ((with_reducible refine gate_callee (f := 13) rfl ?_); refine goesL_ (some 46) rfl rfl Try.func13 (by kernel_rfl) rfl #[.int .i64 (wrap64 (Int.tmod (IntKind.u64.wrap (a1)) 8)), .int .i64 (wrap64 (Int.tmod (IntKind.u64.wrap (a3)) 1073741784))] rfl (by (try simp only [List.map_toArray, List.map_cons, List.map_nil]); first | done | rfl | (simp only [List.length_drop, List.length_take]; rfl)) ?_; (with_reducible refine (epoch_Next.calls k (wrap64 (Int.tmod (IntKind.u64.wrap (a1)) 8)) (wrap64 (Int.tmod (IntKind.u64.wrap (a3)) 1073741784)) t115 t116 _ A6.out).mono ?_); rintro e w' ⟨rfl, ⟨nd, rfl⟩⟩; refine ⟨_, rfl, ?_⟩) | ((with_reducible refine gate_callee (f := 13) rfl ?_); refine goesL_ (some 52) rfl rfl Try.func13 (by kernel_rfl) rfl #[.int .i64 (wrap64 (Int.tmod (IntKind.u64.wrap (a0)) 8)), .int .i64 t113] rfl (by (try simp only [List.map_toArray, List.map_cons, List.map_nil]); first | done | rfl | (simp only [List.length_drop, List.length_take]; rfl)) ?_; (with_reducible refine (epoch_Next.calls k (wrap64 (Int.tmod (IntKind.u64.wrap (a0)) 8)) t113 t117 t118 _ A7.out).mono ?_); rintro e w' ⟨rfl, ⟨nd, rfl⟩⟩; refine ⟨_, rfl, ?_⟩) | ((with_reducible refine gate_callee (f := 13) rfl ?_); refine goesL_ (some 58) rfl rfl Try.func13 (by kernel_rfl) rfl #[.int .i64 (wrap64 (Int.tmod (IntKind.u64.wrap (a0)) 8)), .int .i64 (wrap64 (Int.tmod (IntKind.u64.wrap (a3)) 1073741784))] rfl (by (try simp only [List.map_toArray, List.map_cons, List.map_nil]); first | done | rfl | (simp only [List.length_drop, List.length_take]; rfl)) ?_; (with_reducible refine (epoch_Next.calls k (wrap64 (Int.tmod (IntKind.u64.wrap (a0)) 8)) (wrap64 (Int.tmod (IntKind.u64.wrap (a3)) 1073741784)) t119 t120 _ A8.out).mono ?_); rintro e w' ⟨rfl, ⟨nd, rfl⟩⟩; refine ⟨_, rfl, ?_⟩) | ((with_reducible refine gate_callee (f := 12) rfl ?_); refine goesL_ (some 63) rfl rfl Try.func12 (by kernel_rfl) rfl #[.int .i64 t113] rfl (by (try simp only [List.map_toArray, List.map_cons, List.map_nil]); first | done | rfl | (simp only [List.length_drop, List.length_take]; rfl)) ?_; (with_reducible refine (epoch_Who.calls t113 t121 t122 _ A9.out).mono ?_); rintro e w' ⟨rfl, ⟨nd, rfl⟩⟩; refine ⟨_, rfl, ?_⟩) | ((with_reducible refine gate_callee (f := 12) rfl ?_); refine goesL_ (some 68) rfl rfl Try.func12 (by kernel_rfl) rfl #[.int .i64 t115] rfl (by (try simp only [List.map_toArray, List.map_cons, List.map_nil]); first | done | rfl | (simp only [List.length_drop, List.length_take]; rfl)) ?_; (with_reducible refine (epoch_Who.calls t115 t123 t124 _ A10.out).mono ?_); rintro e w' ⟨rfl, ⟨nd, rfl⟩⟩; refine ⟨_, rfl, ?_⟩))
  (try simp only [Act.put, List.setIfInBounds_toArray, List.set_cons_zero, List.set_cons_succ])
  go_cut [92] (fun v92 wc => ∃ (kq : Nat) (x92_10 : Bool), v92 = .bool x92_10 ∧ Aside0 (bellwetherlaw14_EpochOnce.j0 kq (wrap64 (Int.tmod (IntKind.u64.wrap (a0)) 8)) (wrap64 (Int.tmod (IntKind.u64.wrap (a1)) 8)) (wrap64 (Int.tmod (IntKind.u64.wrap (a2)) 1073741784)) (wrap64 (Int.tmod (IntKind.u64.wrap (a3)) 1073741784)) t113 t115 t117 t119 t121 t123 x92_10 = some r) ∧ Aside0 (kq ≤ k) ∧ Drawn0 w wc)
  case first =>
    have H := HC11.out
    clear HC11
    by_cases c12 : t114 = 0
    · rw [if_pos c12] at H
      have c12b0 : (t114 == 0) = true := beq_iff_eq.mpr c12
      have c12b1 : (t114 != 0) = false := bne_eq_false_iff_eq.mpr c12
      clear c12
      (first | rw [c12b0] | (simp only [i64_w, i32_w]; rw [c12b0]) | skip)
      by_cases c13 : t116 = 0
      · rw [if_pos c13] at H
        have c13b0 : (t116 == 0) = true := beq_iff_eq.mpr c13
        have c13b1 : (t116 != 0) = false := bne_eq_false_iff_eq.mpr c13
        clear c13
        by_cases c14 : t118 = 0
        · rw [if_pos c14] at H
          have c14b0 : (t118 == 0) = true := beq_iff_eq.mpr c14
          have c14b1 : (t118 != 0) = false := bne_eq_false_iff_eq.mpr c14
          clear c14
          by_cases c15 : t120 = 0
          · rw [if_pos c15] at H
            have c15b0 : (t120 == 0) = true := beq_iff_eq.mpr c15
            have c15b1 : (t120 != 0) = false := bne_eq_false_iff_eq.mpr c15
            clear c15
            by_cases c16 : t122 = 0
            · rw [if_pos c16] at H
              have c16b0 : (t122 == 0) = true := beq_iff_eq.mpr c16
              have c16b1 : (t122 != 0) = false := bne_eq_false_iff_eq.mpr c16
              clear c16
              have H' := Aside0.mk H
              clear H
              go_wp2
              go_meet
              case rel => exact ⟨_, ((t124 != 0)), (by first | rfl | (simp; done) | (simp [*]; done)), H', ⟨by first | omega | exact Nat.le_refl _⟩, by repeat (first | exact Drawn0.refl _ | apply Drawn0.step)⟩
            · rw [if_neg c16] at H
              have c16b0 : (t122 == 0) = false := beq_eq_false_iff_ne.mpr c16
              have c16b1 : (t122 != 0) = true := bne_iff_ne.mpr c16
              have H' := Aside0.mk H
              clear H
              go_wp2
              go_meet
              case rel => exact ⟨_, (true), (by first | rfl | (simp; done) | (simp [*]; done)), H', ⟨by first | omega | exact Nat.le_refl _⟩, by repeat (first | exact Drawn0.refl _ | apply Drawn0.step)⟩
          · rw [if_neg c15] at H
            have c15b0 : (t120 == 0) = false := beq_eq_false_iff_ne.mpr c15
            have c15b1 : (t120 != 0) = true := bne_iff_ne.mpr c15
            have H' := Aside0.mk H
            clear H
            go_wp2
            go_meet
            case rel => exact ⟨_, (true), (by first | rfl | (simp; done) | (simp [*]; done)), H', ⟨by first | omega | exact Nat.le_refl _⟩, by repeat (first | exact Drawn0.refl _ | apply Drawn0.step)⟩
        · rw [if_neg c14] at H
          have c14b0 : (t118 == 0) = false := beq_eq_false_iff_ne.mpr c14
          have c14b1 : (t118 != 0) = true := bne_iff_ne.mpr c14
          have H' := Aside0.mk H
          clear H
          go_wp2
          go_meet
          case rel => exact ⟨_, (true), (by first | rfl | (simp; done) | (simp [*]; done)), H', ⟨by first | omega | exact Nat.le_refl _⟩, by repeat (first | exact Drawn0.refl _ | apply Drawn0.step)⟩
      · rw [if_neg c13] at H
        have c13b0 : (t116 == 0) = false := beq_eq_false_iff_ne.mpr c13
        have c13b1 : (t116 != 0) = true := bne_iff_ne.mpr c13
        have H' := Aside0.mk H
        clear H
        go_wp2
        go_meet
        case rel => exact ⟨_, (true), (by first | rfl | (simp; done) | (simp [*]; done)), H', ⟨by first | omega | exact Nat.le_refl _⟩, by repeat (first | exact Drawn0.refl _ | apply Drawn0.step)⟩
    · rw [if_neg c12] at H
      have c12b0 : (t114 == 0) = false := beq_eq_false_iff_ne.mpr c12
      have c12b1 : (t114 != 0) = true := bne_iff_ne.mpr c12
      (first | rw [c12b0] | (simp only [i64_w, i32_w]; rw [c12b0]) | skip)
      have H' := Aside0.mk H
      clear H
      go_wp2
      go_meet
      case rel => exact ⟨_, (true), (by first | rfl | (simp; done) | (simp [*]; done)), H', ⟨by first | omega | exact Nat.le_refl _⟩, by repeat (first | exact Drawn0.refl _ | apply Drawn0.step)⟩
  case rest =>
    clear HC11
    try clear c1
    try clear p2
    try clear c4
    try clear p6
    try clear c12
    try clear c12b0
    try clear c12b1
    try clear c13
    try clear c13b0
    try clear c13b1
    try clear c14
    try clear c14b0
    try clear c14b1
    try clear c15
    try clear c15b0
    try clear c15b1
    try clear c16
    try clear c16b0
    try clear c16b1
    obtain ⟨kq, x92_10, rfl, HA, HJ10, ⟨mc10, rfl⟩⟩ := hcut
    cases kq with
    | zero => exact absurd HA.out (by simp [bellwetherlaw14_EpochOnce.j0])
    | succ kj10 =>
      have H := HA.out
      clear HA
      simp only [bellwetherlaw14_EpochOnce.j0] at H
      by_cases c17 : x92_10 = true
      · subst c17
        have H1 : (some false) = some r := by rw [if_pos rfl] at H; exact H
        clear H
        have H := H1
        clear H1
        obtain rfl := Option.some.inj H
        go_wp2
        go_ret
        exact ⟨by first | rfl | (simp; done) | (simp [*]; done), by repeat (first | exact Drawn0.refl _ | apply Drawn0.step)⟩
      · replace c17 := Bool.eq_false_iff.mpr c17
        subst c17
        have H1 : (if t113 > (wrap64 (Int.tmod (IntKind.u64.wrap (a2)) 1073741784)) then (if t113 ≤ (wrap64 ((wrap64 (Int.tmod (IntKind.u64.wrap (a2)) 1073741784)) + 16)) then (if t121 = (wrap64 (Int.tmod (IntKind.u64.wrap (a0)) 8)) then (if t123 = (wrap64 (Int.tmod (IntKind.u64.wrap (a1)) 8)) then (if t113 = t115 then (if (wrap64 (Int.tmod (IntKind.u64.wrap (a0)) 8)) = (wrap64 (Int.tmod (IntKind.u64.wrap (a1)) 8)) then (if t117 = (wrap64 (t113 + 16)) then (if (wrap64 (Int.tmod (IntKind.u64.wrap (a2)) 1073741784)) > (wrap64 (Int.tmod (IntKind.u64.wrap (a3)) 1073741784)) then ((epoch_Check.f t113).bind fun t125 => (if t125 = 0 then ((bellwetherlaw14_wakes.f kj10).bind fun t126 => (some t126)) else (some false))) else (if t113 ≤ t119 then ((epoch_Check.f t113).bind fun t127 => (if t127 = 0 then ((bellwetherlaw14_wakes.f kj10).bind fun t128 => (some t128)) else (some false))) else (some false))) else (some false)) else (some false)) else (if t117 = (wrap64 (t113 + 16)) then (if (wrap64 (Int.tmod (IntKind.u64.wrap (a2)) 1073741784)) > (wrap64 (Int.tmod (IntKind.u64.wrap (a3)) 1073741784)) then ((epoch_Check.f t113).bind fun t129 => (if t129 = 0 then ((bellwetherlaw14_wakes.f kj10).bind fun t130 => (some t130)) else (some false))) else (if t113 ≤ t119 then ((epoch_Check.f t113).bind fun t131 => (if t131 = 0 then ((bellwetherlaw14_wakes.f kj10).bind fun t132 => (some t132)) else (some false))) else (some false))) else (some false))) else (some false)) else (some false)) else (some false)) else (some false)) = some r := by rw [if_neg (show ¬ (false = true) by decide)] at H; exact H
        clear H
        have H := H1
        clear H1
        by_cases c18 : t113 > (wrap64 (Int.tmod (IntKind.u64.wrap (a2)) 1073741784))
        · rw [if_pos c18] at H
          have c18b0 : decide ((wrap64 (Int.tmod (IntKind.u64.wrap (a2)) 1073741784)) < t113) = true := decide_eq_true c18
          clear c18
          by_cases c19 : t113 ≤ (wrap64 ((wrap64 (Int.tmod (IntKind.u64.wrap (a2)) 1073741784)) + 16))
          · rw [if_pos c19] at H
            have c19b0 : decide (t113 ≤ (wrap64 ((wrap64 (Int.tmod (IntKind.u64.wrap (a2)) 1073741784)) + 16))) = true := decide_eq_true c19
            clear c19
            by_cases c20 : t121 = (wrap64 (Int.tmod (IntKind.u64.wrap (a0)) 8))
            · rw [if_pos c20] at H
              have c20b0 : (t121 == (wrap64 (Int.tmod (IntKind.u64.wrap (a0)) 8))) = true := beq_iff_eq.mpr c20
              have c20b1 : (t121 != (wrap64 (Int.tmod (IntKind.u64.wrap (a0)) 8))) = false := bne_eq_false_iff_eq.mpr c20
              clear c20
              by_cases c21 : t123 = (wrap64 (Int.tmod (IntKind.u64.wrap (a1)) 8))
              · rw [if_pos c21] at H
                have c21b0 : (t123 == (wrap64 (Int.tmod (IntKind.u64.wrap (a1)) 8))) = true := beq_iff_eq.mpr c21
                have c21b1 : (t123 != (wrap64 (Int.tmod (IntKind.u64.wrap (a1)) 8))) = false := bne_eq_false_iff_eq.mpr c21
                clear c21
                by_cases c22 : t113 = t115
                · rw [if_pos c22] at H
                  have c22b0 : (t113 == t115) = true := beq_iff_eq.mpr c22
                  have c22b1 : (t113 != t115) = false := bne_eq_false_iff_eq.mpr c22
                  clear c22
                  by_cases c23 : (wrap64 (Int.tmod (IntKind.u64.wrap (a0)) 8)) = (wrap64 (Int.tmod (IntKind.u64.wrap (a1)) 8))
                  · rw [if_pos c23] at H
                    have c23b0 : ((wrap64 (Int.tmod (IntKind.u64.wrap (a0)) 8)) == (wrap64 (Int.tmod (IntKind.u64.wrap (a1)) 8))) = true := beq_iff_eq.mpr c23
                    have c23b1 : ((wrap64 (Int.tmod (IntKind.u64.wrap (a0)) 8)) != (wrap64 (Int.tmod (IntKind.u64.wrap (a1)) 8))) = false := bne_eq_false_iff_eq.mpr c23
                    clear c23
                    by_cases c24 : t117 = (wrap64 (t113 + 16))
                    · rw [if_pos c24] at H
                      have c24b0 : (t117 == (wrap64 (t113 + 16))) = true := beq_iff_eq.mpr c24
                      have c24b1 : (t117 != (wrap64 (t113 + 16))) = false := bne_eq_false_iff_eq.mpr c24
                      clear c24
                      by_cases c25 : (wrap64 (Int.tmod (IntKind.u64.wrap (a2)) 1073741784)) > (wrap64 (Int.tmod (IntKind.u64.wrap (a3)) 1073741784))
                      · rw [if_pos c25] at H
                        have c25b0 : decide ((wrap64 (Int.tmod (IntKind.u64.wrap (a3)) 1073741784)) < (wrap64 (Int.tmod (IntKind.u64.wrap (a2)) 1073741784))) = true := decide_eq_true c25
                        clear c25
                        replace H := Option.bind_eq_some_iff.mp H
                        obtain ⟨t125, A260, H⟩ := H
                        replace H : (if t125 = 0 then ((bellwetherlaw14_wakes.f kj10).bind fun t126 => (some t126)) else (some false)) = some r := H
                        have A26 := Aside0.mk A260
                        clear A260
                        by_cases c27 : t125 = 0
                        · rw [if_pos c27] at H
                          have c27b0 : (t125 == 0) = true := beq_iff_eq.mpr c27
                          have c27b1 : (t125 != 0) = false := bne_eq_false_iff_eq.mpr c27
                          clear c27
                          replace H := Option.bind_eq_some_iff.mp H
                          obtain ⟨t126, A280, H⟩ := H
                          replace H : (some t126) = some r := H
                          have A28 := Aside0.mk A280
                          clear A280
                          obtain rfl := Option.some.inj H
                          go_wp2_with (first | (go_at_call 15; (with_reducible refine (epoch_Check.calls t113 t125 _ A26.out).mono ?_); rintro e w' ⟨rfl, ⟨nd, rfl⟩⟩) | (go_at_call 17; (with_reducible refine (bellwetherlaw14_wakes.calls kj10  t126 _ A28.out).mono ?_); rintro e w' ⟨rfl, ⟨nd, rfl⟩⟩))
                          go_ret
                          exact ⟨by first | rfl | (simp; done) | (simp [*]; done), by repeat (first | exact Drawn0.refl _ | apply Drawn0.step)⟩
                        · rw [if_neg c27] at H
                          have c27b0 : (t125 == 0) = false := beq_eq_false_iff_ne.mpr c27
                          have c27b1 : (t125 != 0) = true := bne_iff_ne.mpr c27
                          obtain rfl := Option.some.inj H
                          go_wp2_with (first | (go_at_call 15; (with_reducible refine (epoch_Check.calls t113 t125 _ A26.out).mono ?_); rintro e w' ⟨rfl, ⟨nd, rfl⟩⟩))
                          go_ret
                          exact ⟨by first | rfl | (simp; done) | (simp [*]; done), by repeat (first | exact Drawn0.refl _ | apply Drawn0.step)⟩
                      · rw [if_neg c25] at H
                        have c25b0 : decide ((wrap64 (Int.tmod (IntKind.u64.wrap (a3)) 1073741784)) < (wrap64 (Int.tmod (IntKind.u64.wrap (a2)) 1073741784))) = false := decide_eq_false c25
                        clear c25
                        by_cases c29 : t113 ≤ t119
                        · rw [if_pos c29] at H
                          have c29b0 : decide (t113 ≤ t119) = true := decide_eq_true c29
                          clear c29
                          replace H := Option.bind_eq_some_iff.mp H
                          obtain ⟨t127, A300, H⟩ := H
                          replace H : (if t127 = 0 then ((bellwetherlaw14_wakes.f kj10).bind fun t128 => (some t128)) else (some false)) = some r := H
                          have A30 := Aside0.mk A300
                          clear A300
                          by_cases c31 : t127 = 0
                          · rw [if_pos c31] at H
                            have c31b0 : (t127 == 0) = true := beq_iff_eq.mpr c31
                            have c31b1 : (t127 != 0) = false := bne_eq_false_iff_eq.mpr c31
                            clear c31
                            replace H := Option.bind_eq_some_iff.mp H
                            obtain ⟨t128, A320, H⟩ := H
                            replace H : (some t128) = some r := H
                            have A32 := Aside0.mk A320
                            clear A320
                            obtain rfl := Option.some.inj H
                            go_wp2_with (first | (go_at_call 15; (with_reducible refine (epoch_Check.calls t113 t127 _ A30.out).mono ?_); rintro e w' ⟨rfl, ⟨nd, rfl⟩⟩) | (go_at_call 17; (with_reducible refine (bellwetherlaw14_wakes.calls kj10  t128 _ A32.out).mono ?_); rintro e w' ⟨rfl, ⟨nd, rfl⟩⟩))
                            go_ret
                            exact ⟨by first | rfl | (simp; done) | (simp [*]; done), by repeat (first | exact Drawn0.refl _ | apply Drawn0.step)⟩
                          · rw [if_neg c31] at H
                            have c31b0 : (t127 == 0) = false := beq_eq_false_iff_ne.mpr c31
                            have c31b1 : (t127 != 0) = true := bne_iff_ne.mpr c31
                            obtain rfl := Option.some.inj H
                            go_wp2_with (first | (go_at_call 15; (with_reducible refine (epoch_Check.calls t113 t127 _ A30.out).mono ?_); rintro e w' ⟨rfl, ⟨nd, rfl⟩⟩))
                            go_ret
                            exact ⟨by first | rfl | (simp; done) | (simp [*]; done), by repeat (first | exact Drawn0.refl _ | apply Drawn0.step)⟩
                        · rw [if_neg c29] at H
                          have c29b0 : decide (t113 ≤ t119) = false := decide_eq_false c29
                          clear c29
                          obtain rfl := Option.some.inj H
                          go_wp2
                          go_ret
                          exact ⟨by first | rfl | (simp; done) | (simp [*]; done), by repeat (first | exact Drawn0.refl _ | apply Drawn0.step)⟩
                    · rw [if_neg c24] at H
                      have c24b0 : (t117 == (wrap64 (t113 + 16))) = false := beq_eq_false_iff_ne.mpr c24
                      have c24b1 : (t117 != (wrap64 (t113 + 16))) = true := bne_iff_ne.mpr c24
                      obtain rfl := Option.some.inj H
                      go_wp2
                      go_ret
                      exact ⟨by first | rfl | (simp; done) | (simp [*]; done), by repeat (first | exact Drawn0.refl _ | apply Drawn0.step)⟩
                  · rw [if_neg c23] at H
                    have c23b0 : ((wrap64 (Int.tmod (IntKind.u64.wrap (a0)) 8)) == (wrap64 (Int.tmod (IntKind.u64.wrap (a1)) 8))) = false := beq_eq_false_iff_ne.mpr c23
                    have c23b1 : ((wrap64 (Int.tmod (IntKind.u64.wrap (a0)) 8)) != (wrap64 (Int.tmod (IntKind.u64.wrap (a1)) 8))) = true := bne_iff_ne.mpr c23
                    obtain rfl := Option.some.inj H
                    go_wp2
                    go_ret
                    exact ⟨by first | rfl | (simp; done) | (simp [*]; done), by repeat (first | exact Drawn0.refl _ | apply Drawn0.step)⟩
                · rw [if_neg c22] at H
                  have c22b0 : (t113 == t115) = false := beq_eq_false_iff_ne.mpr c22
                  have c22b1 : (t113 != t115) = true := bne_iff_ne.mpr c22
                  by_cases c33 : t117 = (wrap64 (t113 + 16))
                  · rw [if_pos c33] at H
                    have c33b0 : (t117 == (wrap64 (t113 + 16))) = true := beq_iff_eq.mpr c33
                    have c33b1 : (t117 != (wrap64 (t113 + 16))) = false := bne_eq_false_iff_eq.mpr c33
                    clear c33
                    by_cases c34 : (wrap64 (Int.tmod (IntKind.u64.wrap (a2)) 1073741784)) > (wrap64 (Int.tmod (IntKind.u64.wrap (a3)) 1073741784))
                    · rw [if_pos c34] at H
                      have c34b0 : decide ((wrap64 (Int.tmod (IntKind.u64.wrap (a3)) 1073741784)) < (wrap64 (Int.tmod (IntKind.u64.wrap (a2)) 1073741784))) = true := decide_eq_true c34
                      clear c34
                      replace H := Option.bind_eq_some_iff.mp H
                      obtain ⟨t129, A350, H⟩ := H
                      replace H : (if t129 = 0 then ((bellwetherlaw14_wakes.f kj10).bind fun t130 => (some t130)) else (some false)) = some r := H
                      have A35 := Aside0.mk A350
                      clear A350
                      by_cases c36 : t129 = 0
                      · rw [if_pos c36] at H
                        have c36b0 : (t129 == 0) = true := beq_iff_eq.mpr c36
                        have c36b1 : (t129 != 0) = false := bne_eq_false_iff_eq.mpr c36
                        clear c36
                        replace H := Option.bind_eq_some_iff.mp H
                        obtain ⟨t130, A370, H⟩ := H
                        replace H : (some t130) = some r := H
                        have A37 := Aside0.mk A370
                        clear A370
                        obtain rfl := Option.some.inj H
                        go_wp2_with (first | (go_at_call 15; (with_reducible refine (epoch_Check.calls t113 t129 _ A35.out).mono ?_); rintro e w' ⟨rfl, ⟨nd, rfl⟩⟩) | (go_at_call 17; (with_reducible refine (bellwetherlaw14_wakes.calls kj10  t130 _ A37.out).mono ?_); rintro e w' ⟨rfl, ⟨nd, rfl⟩⟩))
                        go_ret
                        exact ⟨by first | rfl | (simp; done) | (simp [*]; done), by repeat (first | exact Drawn0.refl _ | apply Drawn0.step)⟩
                      · rw [if_neg c36] at H
                        have c36b0 : (t129 == 0) = false := beq_eq_false_iff_ne.mpr c36
                        have c36b1 : (t129 != 0) = true := bne_iff_ne.mpr c36
                        obtain rfl := Option.some.inj H
                        go_wp2_with (first | (go_at_call 15; (with_reducible refine (epoch_Check.calls t113 t129 _ A35.out).mono ?_); rintro e w' ⟨rfl, ⟨nd, rfl⟩⟩))
                        go_ret
                        exact ⟨by first | rfl | (simp; done) | (simp [*]; done), by repeat (first | exact Drawn0.refl _ | apply Drawn0.step)⟩
                    · rw [if_neg c34] at H
                      have c34b0 : decide ((wrap64 (Int.tmod (IntKind.u64.wrap (a3)) 1073741784)) < (wrap64 (Int.tmod (IntKind.u64.wrap (a2)) 1073741784))) = false := decide_eq_false c34
                      clear c34
                      by_cases c38 : t113 ≤ t119
                      · rw [if_pos c38] at H
                        have c38b0 : decide (t113 ≤ t119) = true := decide_eq_true c38
                        clear c38
                        replace H := Option.bind_eq_some_iff.mp H
                        obtain ⟨t131, A390, H⟩ := H
                        replace H : (if t131 = 0 then ((bellwetherlaw14_wakes.f kj10).bind fun t132 => (some t132)) else (some false)) = some r := H
                        have A39 := Aside0.mk A390
                        clear A390
                        by_cases c40 : t131 = 0
                        · rw [if_pos c40] at H
                          have c40b0 : (t131 == 0) = true := beq_iff_eq.mpr c40
                          have c40b1 : (t131 != 0) = false := bne_eq_false_iff_eq.mpr c40
                          clear c40
                          replace H := Option.bind_eq_some_iff.mp H
                          obtain ⟨t132, A410, H⟩ := H
                          replace H : (some t132) = some r := H
                          have A41 := Aside0.mk A410
                          clear A410
                          obtain rfl := Option.some.inj H
                          go_wp2_with (first | (go_at_call 15; (with_reducible refine (epoch_Check.calls t113 t131 _ A39.out).mono ?_); rintro e w' ⟨rfl, ⟨nd, rfl⟩⟩) | (go_at_call 17; (with_reducible refine (bellwetherlaw14_wakes.calls kj10  t132 _ A41.out).mono ?_); rintro e w' ⟨rfl, ⟨nd, rfl⟩⟩))
                          go_ret
                          exact ⟨by first | rfl | (simp; done) | (simp [*]; done), by repeat (first | exact Drawn0.refl _ | apply Drawn0.step)⟩
                        · rw [if_neg c40] at H
                          have c40b0 : (t131 == 0) = false := beq_eq_false_iff_ne.mpr c40
                          have c40b1 : (t131 != 0) = true := bne_iff_ne.mpr c40
                          obtain rfl := Option.some.inj H
                          go_wp2_with (first | (go_at_call 15; (with_reducible refine (epoch_Check.calls t113 t131 _ A39.out).mono ?_); rintro e w' ⟨rfl, ⟨nd, rfl⟩⟩))
                          go_ret
                          exact ⟨by first | rfl | (simp; done) | (simp [*]; done), by repeat (first | exact Drawn0.refl _ | apply Drawn0.step)⟩
                      · rw [if_neg c38] at H
                        have c38b0 : decide (t113 ≤ t119) = false := decide_eq_false c38
                        clear c38
                        obtain rfl := Option.some.inj H
                        go_wp2
                        go_ret
                        exact ⟨by first | rfl | (simp; done) | (simp [*]; done), by repeat (first | exact Drawn0.refl _ | apply Drawn0.step)⟩
                  · rw [if_neg c33] at H
                    have c33b0 : (t117 == (wrap64 (t113 + 16))) = false := beq_eq_false_iff_ne.mpr c33
                    have c33b1 : (t117 != (wrap64 (t113 + 16))) = true := bne_iff_ne.mpr c33
                    obtain rfl := Option.some.inj H
                    go_wp2
                    go_ret
                    exact ⟨by first | rfl | (simp; done) | (simp [*]; done), by repeat (first | exact Drawn0.refl _ | apply Drawn0.step)⟩
              · rw [if_neg c21] at H
                have c21b0 : (t123 == (wrap64 (Int.tmod (IntKind.u64.wrap (a1)) 8))) = false := beq_eq_false_iff_ne.mpr c21
                have c21b1 : (t123 != (wrap64 (Int.tmod (IntKind.u64.wrap (a1)) 8))) = true := bne_iff_ne.mpr c21
                obtain rfl := Option.some.inj H
                go_wp2
                go_ret
                exact ⟨by first | rfl | (simp; done) | (simp [*]; done), by repeat (first | exact Drawn0.refl _ | apply Drawn0.step)⟩
            · rw [if_neg c20] at H
              have c20b0 : (t121 == (wrap64 (Int.tmod (IntKind.u64.wrap (a0)) 8))) = false := beq_eq_false_iff_ne.mpr c20
              have c20b1 : (t121 != (wrap64 (Int.tmod (IntKind.u64.wrap (a0)) 8))) = true := bne_iff_ne.mpr c20
              obtain rfl := Option.some.inj H
              go_wp2
              go_ret
              exact ⟨by first | rfl | (simp; done) | (simp [*]; done), by repeat (first | exact Drawn0.refl _ | apply Drawn0.step)⟩
          · rw [if_neg c19] at H
            have c19b0 : decide (t113 ≤ (wrap64 ((wrap64 (Int.tmod (IntKind.u64.wrap (a2)) 1073741784)) + 16))) = false := decide_eq_false c19
            clear c19
            obtain rfl := Option.some.inj H
            go_wp2
            go_ret
            exact ⟨by first | rfl | (simp; done) | (simp [*]; done), by repeat (first | exact Drawn0.refl _ | apply Drawn0.step)⟩
        · rw [if_neg c18] at H
          have c18b0 : decide ((wrap64 (Int.tmod (IntKind.u64.wrap (a2)) 1073741784)) < t113) = false := decide_eq_false c18
          clear c18
          obtain rfl := Option.some.inj H
          go_wp2
          go_ret
          exact ⟨by first | rfl | (simp; done) | (simp [*]; done), by repeat (first | exact Drawn0.refl _ | apply Drawn0.step)⟩

/-- THE ONE PURE STATEMENT of bellwetherlaw14_EpochOnce: yours. -/
def bellwetherlaw14_EpochOnce.Pure : Prop := ∀ (a0 : Int) (a1 : Int) (a2 : Int) (a3 : Int), (Lit.int .i64 a0).wf = true → (Lit.int .i64 a1).wf = true → (Lit.int .i64 a2).wf = true → (Lit.int .i64 a3).wf = true → ∃ k, bellwetherlaw14_EpochOnce.f k a0 a1 a2 a3 = some true
theorem bellwetherlaw14_EpochOnce.walk (P : bellwetherlaw14_EpochOnce.Pure) (a0 : Int) (a1 : Int) (a2 : Int) (a3 : Int) (w : World) (w0 : (Lit.int .i64 a0).wf = true) (w1 : (Lit.int .i64 a1).wf = true) (w2 : (Lit.int .i64 a2).wf = true) (w3 : (Lit.int .i64 a3).wf = true) :
    Calls Try.prog 4 #[.int .i64 a0, .int .i64 a1, .int .i64 a2, .int .i64 a3] w fun e w' => e = .returned (.bool true) ∧ Below w.heap.size w w' := by
  obtain ⟨k, h⟩ := P a0 a1 a2 a3 w0 w1 w2 w3
  refine (bellwetherlaw14_EpochOnce.calls k a0 a1 a2 a3 true w h).mono ?_
  rintro e w' ⟨rfl, hd⟩
  exact ⟨rfl, hd.below⟩

end Go.Proofs.Ytebfhfahkigdlaa.PEpochOnce
