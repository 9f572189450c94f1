/- What package key's functions answer of keys, and what the laws of chapter 3 look at last. No condition beside that the numbers are keys. -/
import Derived.Test.YteeibpeefhaoiaaRingC
namespace Go.Proofs.Yteeibpeefhaoiaa
open Go.RowKit
set_option linter.unusedVariables false

theorem keyis (a : Int) (w : World) (h : Key a) : Calls Try.prog 44 #[.int .i64 a] w (Ret (.bool true) w) := by
  obtain ⟨h0, h1⟩ := h
  have e1 : decide (0 ≤ a) = true := decide_eq_true h0
  have e2 : decide (a < 4611686018427387904) = true := decide_eq_true h1
  go_enter Try.func44, Try.ntmps44
  go_wp2
  all_goals (go_ret; exact ⟨by first | rfl | simp [*], Up.refl _⟩)

theorem behind_ (k n : Int) (w : World) (hk : Key k) (hn : Key n) : Calls Try.prog 25 #[.int .i64 k, .int .i64 n] w (Ret (.tuple #[.int .i64 (fr k n), .int .i64 0]) w) := by
  have HK := Lib.hid hk
  have HN := Lib.hid hn
  clear hk hn
  go_enter Try.func25, Try.ntmps25
  go_wp2_with fail
  refine (keyis _ _ HK.out).mono ?_
  rintro e w1 ⟨rfl, h1⟩
  go_wp2_with fail
  refine (keyis _ _ HN.out).mono ?_
  rintro e w2 ⟨rfl, h2⟩
  go_wp2_with fail
  refine (far_ _ _ _ HK.out HN.out).mono ?_
  rintro e w3 ⟨rfl, h3⟩
  go_wp2
  go_ret2
  exact ⟨rfl, (h1.trans h2).trans h3⟩

/-- Is k passed, or met, on the way from a to b? -/
def btw (a k b : Int) : Bool := decide (a = b) || (decide (0 < fr a k) && decide (fr a k ≤ fr a b))

theorem between_ (a k b : Int) (w : World) (ha : Key a) (hk : Key k) (hb : Key b) : Calls Try.prog 26 #[.int .i64 a, .int .i64 k, .int .i64 b] w (Ret (.bool (btw a k b)) w) := by
  have HA := Lib.hid ha
  have HK := Lib.hid hk
  have HB := Lib.hid hb
  clear ha hk hb
  obtain ⟨x, hx⟩ : ∃ x, fr a k = x := ⟨_, rfl⟩
  obtain ⟨y, hy⟩ : ∃ y, fr a b = y := ⟨_, rfl⟩
  have HX := Lib.hid hx
  have HY := Lib.hid hy
  by_cases hab : a = b
  · have e0 : btw a k b = true := by simp [btw, hab]
    rw [e0]
    have e1 : (a == b) = true := by rw [beq_iff_eq]; exact hab
    clear e0 hab hx hy
    go_enter Try.func26, Try.ntmps26
    go_wp2_with fail
    refine (keyis _ _ HA.out).mono ?_
    rintro e w1 ⟨rfl, h1⟩
    go_wp2_with fail
    refine (keyis _ _ HK.out).mono ?_
    rintro e w2 ⟨rfl, h2⟩
    go_wp2_with fail
    refine (keyis _ _ HB.out).mono ?_
    rintro e w3 ⟨rfl, h3⟩
    go_wp2_with fail
    refine (far_ _ _ _ HA.out HK.out).mono ?_
    rintro e w4 ⟨rfl, h4⟩
    go_wp2
    go_ret
    exact ⟨rfl, ((h1.trans h2).trans h3).trans h4⟩
  · have e1 : (a == b) = false := by rw [beq_eq_false_iff_ne]; exact hab
    have e0 : btw a k b = (decide (0 < x) && decide (x ≤ y)) := by simp [btw, hab, hx, hy]
    rw [e0]
    by_cases hx0 : 0 < x
    · have e2 : decide (0 < x) = true := decide_eq_true hx0
      rw [e2]
      clear e0 hab hx hy
      go_enter Try.func26, Try.ntmps26
      go_wp2_with fail
      refine (keyis _ _ HA.out).mono ?_
      rintro e w1 ⟨rfl, h1⟩
      go_wp2_with fail
      refine (keyis _ _ HK.out).mono ?_
      rintro e w2 ⟨rfl, h2⟩
      go_wp2_with fail
      refine (keyis _ _ HB.out).mono ?_
      rintro e w3 ⟨rfl, h3⟩
      go_wp2_with fail
      refine (far_ _ _ _ HA.out HK.out).mono ?_
      rintro e w4 ⟨rfl, h4⟩
      rw [HX.out]
      go_wp2_with fail
      refine (far_ _ _ _ HA.out HB.out).mono ?_
      rintro e w5 ⟨rfl, h5⟩
      rw [HY.out]
      go_wp2
      go_ret
      exact ⟨rfl, (((h1.trans h2).trans h3).trans h4).trans h5⟩
    · have e2 : decide (0 < x) = false := decide_eq_false hx0
      rw [e2]
      clear e0 hab hx hy
      go_enter Try.func26, Try.ntmps26
      go_wp2_with fail
      refine (keyis _ _ HA.out).mono ?_
      rintro e w1 ⟨rfl, h1⟩
      go_wp2_with fail
      refine (keyis _ _ HK.out).mono ?_
      rintro e w2 ⟨rfl, h2⟩
      go_wp2_with fail
      refine (keyis _ _ HB.out).mono ?_
      rintro e w3 ⟨rfl, h3⟩
      go_wp2_with fail
      refine (far_ _ _ _ HA.out HK.out).mono ?_
      rintro e w4 ⟨rfl, h4⟩
      rw [HX.out]
      go_wp2
      go_ret
      exact ⟨rfl, ((h1.trans h2).trans h3).trans h4⟩

theorem wakes3 (w : World) : Calls Try.prog 21 #[] w (Ret (.bool true) w) := by
  go_enter Try.func21, Try.ntmps21
  go_wp2_with fail
  refine (node_ _ _).mono ?_
  rintro e w1 ⟨rfl, h1⟩
  rw [show ok1 (inB 0 8) (nk 0) = .tuple #[.int .i64 2342812313538366385, .int .i64 0] by kernel_rfl]
  go_wp2_with fail
  refine (owner_ 0 _ [3] _ ?_).mono ?_
  · exact .inr ⟨by decide, by decide, _, _, _, rfl, fun j hj => by
      obtain rfl : j = 0 := by simpa using hj
      simp⟩
  rintro e w2 ⟨rfl, h2⟩
  rw [show ownV 0 [3] = .tuple #[.int .i64 3, .int .i64 0] by kernel_rfl]
  go_wp2_with fail
  refine (owner_ 0 _ [] _ (.inl ⟨rfl, _, _, rfl⟩)).mono ?_
  rintro e w3 ⟨rfl, h3⟩
  rw [show ownV 0 [] = .tuple #[.int .i64 0, .int .i64 7] by kernel_rfl]
  go_wp2_with fail
  refine (nearer_ _ _ _ _).mono ?_
  rintro e w4 ⟨rfl, h4⟩
  rw [show nr 0 1 1 = false by kernel_rfl]
  go_wp2
  go_ret
  exact ⟨rfl, (((h1.trans (Up.alloc _ _)).trans h2).trans h3).trans h4⟩

end Go.Proofs.Yteeibpeefhaoiaa
