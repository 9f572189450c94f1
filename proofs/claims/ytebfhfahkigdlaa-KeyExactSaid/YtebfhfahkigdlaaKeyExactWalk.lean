/- The law KeyExact, walked: the callees' answers in, true out. Its conditions: what the callees answer, in twelve cases. -/
import Derived.Test.YtebfhfahkigdlaaKeyExactPlain
import Derived.Lib.Hide
namespace Go.Proofs.Ytebfhfahkigdlaa.KeyPlain
open Go.RowKit Go.Proofs.Ytebfhfahkigdlaa.PKeyExact Go.Proofs.YtebfhfahkigdlaaW.PrintWords Go.Proofs.YtebfhfahkigdlaaW.PrintLast Go.Proofs.YtebfhfahkigdlaaW.PrintMore
set_option linter.unusedVariables false
set_option maxHeartbeats 1000000
set_option maxRecDepth 100000

theorem walk11 (a k b bits n x p : Int) (t : Bool) (w : World) (c25 : ∀ w, Calls Try.prog 25 #[.int .i64 a, .int .i64 b] w fun e' w' => e' = .returned (.int .i64 n) ∧ Drawn0 w w') (hb0 : 0 ≤ bits) (hb1 : bits ≤ 61) (hp : shl .i64 1 bits = p) (c25k : ∀ w, Calls Try.prog 25 #[.int .i64 p, .int .i64 k] w fun e' w' => e' = .returned (.int .i64 x) ∧ Drawn0 w w')
    (c19 : ∀ w, Calls Try.prog 19 #[.int .i64 a, .int .i64 b] w fun e' w' => e' = .returned (.tuple #[.int .i64 n, .int .i64 0]) ∧ Drawn0 w w')
    (c20 : ∀ w, Calls Try.prog 20 #[.int .i64 k, .int .i64 bits] w fun e' w' => e' = .returned (.tuple #[.int .i64 x, .int .i64 0]) ∧ Drawn0 w w')
    (c21 : ∀ w, Calls Try.prog 21 #[.int .i64 a, .int .i64 k, .int .i64 b] w fun e' w' => e' = .returned (.bool t) ∧ Drawn0 w w')
    (c22 : ∀ w, Calls Try.prog 22 #[.int .i64 a, .int .i64 k, .int .i64 b] w fun e' w' => e' = .returned (.bool t) ∧ Drawn0 w w')
    (c23 : ∀ w, Calls Try.prog 23 #[.int .i64 a] w fun e' w' => e' = .returned (.int .i64 0) ∧ Drawn0 w w')
    (c24a : ∀ w, Calls Try.prog 24 #[.int .i64 a] w fun e' w' => e' = .returned (.bool true) ∧ Drawn0 w w')
    (c24b : ∀ w, Calls Try.prog 24 #[.int .i64 b] w fun e' w' => e' = .returned (.bool true) ∧ Drawn0 w w')
    (c24k : ∀ w, Calls Try.prog 24 #[.int .i64 k] w fun e' w' => e' = .returned (.bool true) ∧ Drawn0 w w')
    (c26 : ∀ w, Calls Try.prog 26 #[] w fun e' w' => e' = .returned (.bool true) ∧ Drawn0 w w') :
    Calls Try.prog 6 #[.int .i64 a, .int .i64 k, .int .i64 b, .int .i64 bits] w fun e' w' => e' = .returned (.bool true) ∧ Drawn0 w w' := by
  have h0 : decide (bits < 0) = false := decide_eq_false (by omega)
  have h1 : decide (61 < bits) = false := decide_eq_false (by omega)
  have p1 : (IntKind.i64.wrap (1 * 2 ^ min bits.toNat 64)) = p := hp
  have p2 : (IntKind.i64.wrap (1 * 2 ^ bits.toNat)) = p := shl_small hp (show bits ≤ 64 by omega)
  have p3 : (IntKind.i64.wrap (2 ^ bits.toNat)) = p := by have h := p2; rw [Int.one_mul] at h; exact h
  have p4 : (IntKind.i64.wrap (2 ^ min bits.toNat 64)) = p := by have h := p1; rw [Int.one_mul] at h; exact h
  have p5 : (wrap64 (1 * 2 ^ min bits.toNat 64)) = p := (i64_w _).symm.trans p1
  have p6 : (wrap64 (1 * 2 ^ bits.toNat)) = p := (i64_w _).symm.trans p2
  have p7 : (wrap64 (2 ^ bits.toNat)) = p := (i64_w _).symm.trans p3
  have p8 : (wrap64 (2 ^ min bits.toNat 64)) = p := (i64_w _).symm.trans p4
  clear hp p1 p2 p3 p4
  have c19' := Lib.hid c19
  clear c19
  have c20' := Lib.hid c20
  clear c20
  have c21' := Lib.hid c21
  clear c21
  have c22' := Lib.hid c22
  clear c22
  have c23' := Lib.hid c23
  clear c23
  have c24a' := Lib.hid c24a
  clear c24a
  have c24b' := Lib.hid c24b
  clear c24b
  have c24k' := Lib.hid c24k
  clear c24k
  have c26' := Lib.hid c26
  clear c26
  have c25' := Lib.hid c25
  clear c25
  have c25k' := Lib.hid c25k
  clear c25k
  go_enter Try.func6, Try.ntmps6
  go_wp2_with fail
  refine (c19'.out _).mono ?_
  rintro e w' ⟨rfl, ⟨nd, rfl⟩⟩
  go_wp2_with fail
  refine (c20'.out _).mono ?_
  rintro e w' ⟨rfl, ⟨nd, rfl⟩⟩
  go_wp2_with fail
  refine (c21'.out _).mono ?_
  rintro e w' ⟨rfl, ⟨nd, rfl⟩⟩
  go_wp2_with fail
  refine (c22'.out _).mono ?_
  rintro e w' ⟨rfl, ⟨nd, rfl⟩⟩
  go_wp2_with fail
  refine (c23'.out _).mono ?_
  rintro e w' ⟨rfl, ⟨nd, rfl⟩⟩
  go_wp2_with fail
  refine (c24a'.out _).mono ?_
  rintro e w' ⟨rfl, ⟨nd, rfl⟩⟩
  go_wp2_with fail
  refine (c24a'.out _).mono ?_
  rintro e w' ⟨rfl, ⟨nd, rfl⟩⟩
  go_wp2_with fail
  refine (c24a'.out _).mono ?_
  rintro e w' ⟨rfl, ⟨nd, rfl⟩⟩
  go_wp2_with fail
  refine (c24b'.out _).mono ?_
  rintro e w' ⟨rfl, ⟨nd, rfl⟩⟩
  go_wp2_with fail
  refine (c25'.out _).mono ?_
  rintro e w' ⟨rfl, ⟨nd, rfl⟩⟩
  go_wp2_with fail
  refine (c24k'.out _).mono ?_
  rintro e w' ⟨rfl, ⟨nd, rfl⟩⟩
  go_wp2_with fail
  refine (c25k'.out _).mono ?_
  rintro e w' ⟨rfl, ⟨nd, rfl⟩⟩
  go_wp2_with fail
  refine (c26'.out _).mono ?_
  rintro e w' ⟨rfl, ⟨nd, rfl⟩⟩
  go_wp2
  go_ret
  exact ⟨by first | rfl | (simp; done), by repeat (first | exact Drawn0.refl _ | apply Drawn0.step)⟩

theorem walk12 (a k b bits n : Int) (t : Bool) (w : World) (c25 : ∀ w, Calls Try.prog 25 #[.int .i64 a, .int .i64 b] w fun e' w' => e' = .returned (.int .i64 n) ∧ Drawn0 w w') (hb : bits < 0)
    (c19 : ∀ w, Calls Try.prog 19 #[.int .i64 a, .int .i64 b] w fun e' w' => e' = .returned (.tuple #[.int .i64 n, .int .i64 0]) ∧ Drawn0 w w')
    (c20 : ∀ w, Calls Try.prog 20 #[.int .i64 k, .int .i64 bits] w fun e' w' => e' = .returned (.tuple #[.int .i64 0, .int .i64 1]) ∧ Drawn0 w w')
    (c21 : ∀ w, Calls Try.prog 21 #[.int .i64 a, .int .i64 k, .int .i64 b] w fun e' w' => e' = .returned (.bool t) ∧ Drawn0 w w')
    (c22 : ∀ w, Calls Try.prog 22 #[.int .i64 a, .int .i64 k, .int .i64 b] w fun e' w' => e' = .returned (.bool t) ∧ Drawn0 w w')
    (c23 : ∀ w, Calls Try.prog 23 #[.int .i64 a] w fun e' w' => e' = .returned (.int .i64 0) ∧ Drawn0 w w')
    (c24a : ∀ w, Calls Try.prog 24 #[.int .i64 a] w fun e' w' => e' = .returned (.bool true) ∧ Drawn0 w w')
    (c24b : ∀ w, Calls Try.prog 24 #[.int .i64 b] w fun e' w' => e' = .returned (.bool true) ∧ Drawn0 w w')
    (c24k : ∀ w, Calls Try.prog 24 #[.int .i64 k] w fun e' w' => e' = .returned (.bool true) ∧ Drawn0 w w')
    (c26 : ∀ w, Calls Try.prog 26 #[] w fun e' w' => e' = .returned (.bool true) ∧ Drawn0 w w') :
    Calls Try.prog 6 #[.int .i64 a, .int .i64 k, .int .i64 b, .int .i64 bits] w fun e' w' => e' = .returned (.bool true) ∧ Drawn0 w w' := by
  have h0 : decide (bits < 0) = true := decide_eq_true hb
  have c19' := Lib.hid c19
  clear c19
  have c20' := Lib.hid c20
  clear c20
  have c21' := Lib.hid c21
  clear c21
  have c22' := Lib.hid c22
  clear c22
  have c23' := Lib.hid c23
  clear c23
  have c24a' := Lib.hid c24a
  clear c24a
  have c24b' := Lib.hid c24b
  clear c24b
  have c24k' := Lib.hid c24k
  clear c24k
  have c26' := Lib.hid c26
  clear c26
  have c25' := Lib.hid c25
  clear c25
  go_enter Try.func6, Try.ntmps6
  go_wp2_with fail
  refine (c19'.out _).mono ?_
  rintro e w' ⟨rfl, ⟨nd, rfl⟩⟩
  go_wp2_with fail
  refine (c20'.out _).mono ?_
  rintro e w' ⟨rfl, ⟨nd, rfl⟩⟩
  go_wp2_with fail
  refine (c21'.out _).mono ?_
  rintro e w' ⟨rfl, ⟨nd, rfl⟩⟩
  go_wp2_with fail
  refine (c22'.out _).mono ?_
  rintro e w' ⟨rfl, ⟨nd, rfl⟩⟩
  go_wp2_with fail
  refine (c23'.out _).mono ?_
  rintro e w' ⟨rfl, ⟨nd, rfl⟩⟩
  go_wp2_with fail
  refine (c24a'.out _).mono ?_
  rintro e w' ⟨rfl, ⟨nd, rfl⟩⟩
  go_wp2_with fail
  refine (c24a'.out _).mono ?_
  rintro e w' ⟨rfl, ⟨nd, rfl⟩⟩
  go_wp2_with fail
  refine (c24a'.out _).mono ?_
  rintro e w' ⟨rfl, ⟨nd, rfl⟩⟩
  go_wp2_with fail
  refine (c24b'.out _).mono ?_
  rintro e w' ⟨rfl, ⟨nd, rfl⟩⟩
  go_wp2_with fail
  refine (c25'.out _).mono ?_
  rintro e w' ⟨rfl, ⟨nd, rfl⟩⟩
  go_wp2_with fail
  refine (c24k'.out _).mono ?_
  rintro e w' ⟨rfl, ⟨nd, rfl⟩⟩
  go_wp2_with fail
  refine (c26'.out _).mono ?_
  rintro e w' ⟨rfl, ⟨nd, rfl⟩⟩
  go_wp2
  go_ret
  exact ⟨by first | rfl | (simp; done), by repeat (first | exact Drawn0.refl _ | apply Drawn0.step)⟩

theorem walk13 (a k b bits n : Int) (t : Bool) (w : World) (c25 : ∀ w, Calls Try.prog 25 #[.int .i64 a, .int .i64 b] w fun e' w' => e' = .returned (.int .i64 n) ∧ Drawn0 w w')
    (c19 : ∀ w, Calls Try.prog 19 #[.int .i64 a, .int .i64 b] w fun e' w' => e' = .returned (.tuple #[.int .i64 n, .int .i64 0]) ∧ Drawn0 w w')
    (c20 : ∀ w, Calls Try.prog 20 #[.int .i64 k, .int .i64 bits] w fun e' w' => e' = .returned (.tuple #[.int .i64 0, .int .i64 1]) ∧ Drawn0 w w')
    (c21 : ∀ w, Calls Try.prog 21 #[.int .i64 a, .int .i64 k, .int .i64 b] w fun e' w' => e' = .returned (.bool t) ∧ Drawn0 w w')
    (c22 : ∀ w, Calls Try.prog 22 #[.int .i64 a, .int .i64 k, .int .i64 b] w fun e' w' => e' = .returned (.bool t) ∧ Drawn0 w w')
    (c23 : ∀ w, Calls Try.prog 23 #[.int .i64 a] w fun e' w' => e' = .returned (.int .i64 0) ∧ Drawn0 w w')
    (c24a : ∀ w, Calls Try.prog 24 #[.int .i64 a] w fun e' w' => e' = .returned (.bool true) ∧ Drawn0 w w')
    (c24b : ∀ w, Calls Try.prog 24 #[.int .i64 b] w fun e' w' => e' = .returned (.bool true) ∧ Drawn0 w w')
    (c24k : ∀ w, Calls Try.prog 24 #[.int .i64 k] w fun e' w' => e' = .returned (.bool false) ∧ Drawn0 w w')
    (c26 : ∀ w, Calls Try.prog 26 #[] w fun e' w' => e' = .returned (.bool true) ∧ Drawn0 w w') :
    Calls Try.prog 6 #[.int .i64 a, .int .i64 k, .int .i64 b, .int .i64 bits] w fun e' w' => e' = .returned (.bool true) ∧ Drawn0 w w' := by
  have c19' := Lib.hid c19
  clear c19
  have c20' := Lib.hid c20
  clear c20
  have c21' := Lib.hid c21
  clear c21
  have c22' := Lib.hid c22
  clear c22
  have c23' := Lib.hid c23
  clear c23
  have c24a' := Lib.hid c24a
  clear c24a
  have c24b' := Lib.hid c24b
  clear c24b
  have c24k' := Lib.hid c24k
  clear c24k
  have c26' := Lib.hid c26
  clear c26
  have c25' := Lib.hid c25
  clear c25
  go_enter Try.func6, Try.ntmps6
  go_wp2_with fail
  refine (c19'.out _).mono ?_
  rintro e w' ⟨rfl, ⟨nd, rfl⟩⟩
  go_wp2_with fail
  refine (c20'.out _).mono ?_
  rintro e w' ⟨rfl, ⟨nd, rfl⟩⟩
  go_wp2_with fail
  refine (c21'.out _).mono ?_
  rintro e w' ⟨rfl, ⟨nd, rfl⟩⟩
  go_wp2_with fail
  refine (c22'.out _).mono ?_
  rintro e w' ⟨rfl, ⟨nd, rfl⟩⟩
  go_wp2_with fail
  refine (c23'.out _).mono ?_
  rintro e w' ⟨rfl, ⟨nd, rfl⟩⟩
  go_wp2_with fail
  refine (c24a'.out _).mono ?_
  rintro e w' ⟨rfl, ⟨nd, rfl⟩⟩
  go_wp2_with fail
  refine (c24a'.out _).mono ?_
  rintro e w' ⟨rfl, ⟨nd, rfl⟩⟩
  go_wp2_with fail
  refine (c24a'.out _).mono ?_
  rintro e w' ⟨rfl, ⟨nd, rfl⟩⟩
  go_wp2_with fail
  refine (c24b'.out _).mono ?_
  rintro e w' ⟨rfl, ⟨nd, rfl⟩⟩
  go_wp2_with fail
  refine (c25'.out _).mono ?_
  rintro e w' ⟨rfl, ⟨nd, rfl⟩⟩
  go_wp2_with fail
  refine (c24k'.out _).mono ?_
  rintro e w' ⟨rfl, ⟨nd, rfl⟩⟩
  go_wp2_with fail
  refine (c26'.out _).mono ?_
  rintro e w' ⟨rfl, ⟨nd, rfl⟩⟩
  go_wp2
  go_ret
  exact ⟨by first | rfl | (simp; done), by repeat (first | exact Drawn0.refl _ | apply Drawn0.step)⟩

theorem walk14 (a k b bits n : Int) (t : Bool) (w : World) (c25 : ∀ w, Calls Try.prog 25 #[.int .i64 a, .int .i64 b] w fun e' w' => e' = .returned (.int .i64 n) ∧ Drawn0 w w') (hb : 61 < bits)
    (c19 : ∀ w, Calls Try.prog 19 #[.int .i64 a, .int .i64 b] w fun e' w' => e' = .returned (.tuple #[.int .i64 n, .int .i64 0]) ∧ Drawn0 w w')
    (c20 : ∀ w, Calls Try.prog 20 #[.int .i64 k, .int .i64 bits] w fun e' w' => e' = .returned (.tuple #[.int .i64 0, .int .i64 1]) ∧ Drawn0 w w')
    (c21 : ∀ w, Calls Try.prog 21 #[.int .i64 a, .int .i64 k, .int .i64 b] w fun e' w' => e' = .returned (.bool t) ∧ Drawn0 w w')
    (c22 : ∀ w, Calls Try.prog 22 #[.int .i64 a, .int .i64 k, .int .i64 b] w fun e' w' => e' = .returned (.bool t) ∧ Drawn0 w w')
    (c23 : ∀ w, Calls Try.prog 23 #[.int .i64 a] w fun e' w' => e' = .returned (.int .i64 0) ∧ Drawn0 w w')
    (c24a : ∀ w, Calls Try.prog 24 #[.int .i64 a] w fun e' w' => e' = .returned (.bool true) ∧ Drawn0 w w')
    (c24b : ∀ w, Calls Try.prog 24 #[.int .i64 b] w fun e' w' => e' = .returned (.bool true) ∧ Drawn0 w w')
    (c24k : ∀ w, Calls Try.prog 24 #[.int .i64 k] w fun e' w' => e' = .returned (.bool true) ∧ Drawn0 w w')
    (c26 : ∀ w, Calls Try.prog 26 #[] w fun e' w' => e' = .returned (.bool true) ∧ Drawn0 w w') :
    Calls Try.prog 6 #[.int .i64 a, .int .i64 k, .int .i64 b, .int .i64 bits] w fun e' w' => e' = .returned (.bool true) ∧ Drawn0 w w' := by
  have h0 : decide (bits < 0) = false := decide_eq_false (by omega)
  have h1 : decide (61 < bits) = true := decide_eq_true hb
  have c19' := Lib.hid c19
  clear c19
  have c20' := Lib.hid c20
  clear c20
  have c21' := Lib.hid c21
  clear c21
  have c22' := Lib.hid c22
  clear c22
  have c23' := Lib.hid c23
  clear c23
  have c24a' := Lib.hid c24a
  clear c24a
  have c24b' := Lib.hid c24b
  clear c24b
  have c24k' := Lib.hid c24k
  clear c24k
  have c26' := Lib.hid c26
  clear c26
  have c25' := Lib.hid c25
  clear c25
  go_enter Try.func6, Try.ntmps6
  go_wp2_with fail
  refine (c19'.out _).mono ?_
  rintro e w' ⟨rfl, ⟨nd, rfl⟩⟩
  go_wp2_with fail
  refine (c20'.out _).mono ?_
  rintro e w' ⟨rfl, ⟨nd, rfl⟩⟩
  go_wp2_with fail
  refine (c21'.out _).mono ?_
  rintro e w' ⟨rfl, ⟨nd, rfl⟩⟩
  go_wp2_with fail
  refine (c22'.out _).mono ?_
  rintro e w' ⟨rfl, ⟨nd, rfl⟩⟩
  go_wp2_with fail
  refine (c23'.out _).mono ?_
  rintro e w' ⟨rfl, ⟨nd, rfl⟩⟩
  go_wp2_with fail
  refine (c24a'.out _).mono ?_
  rintro e w' ⟨rfl, ⟨nd, rfl⟩⟩
  go_wp2_with fail
  refine (c24a'.out _).mono ?_
  rintro e w' ⟨rfl, ⟨nd, rfl⟩⟩
  go_wp2_with fail
  refine (c24a'.out _).mono ?_
  rintro e w' ⟨rfl, ⟨nd, rfl⟩⟩
  go_wp2_with fail
  refine (c24b'.out _).mono ?_
  rintro e w' ⟨rfl, ⟨nd, rfl⟩⟩
  go_wp2_with fail
  refine (c25'.out _).mono ?_
  rintro e w' ⟨rfl, ⟨nd, rfl⟩⟩
  go_wp2_with fail
  refine (c24k'.out _).mono ?_
  rintro e w' ⟨rfl, ⟨nd, rfl⟩⟩
  go_wp2_with fail
  refine (c26'.out _).mono ?_
  rintro e w' ⟨rfl, ⟨nd, rfl⟩⟩
  go_wp2
  go_ret
  exact ⟨by first | rfl | (simp; done), by repeat (first | exact Drawn0.refl _ | apply Drawn0.step)⟩

theorem walk21 (a k b bits x p : Int) (t : Bool) (w : World) (hb0 : 0 ≤ bits) (hb1 : bits ≤ 61) (hp : shl .i64 1 bits = p) (c25k : ∀ w, Calls Try.prog 25 #[.int .i64 p, .int .i64 k] w fun e' w' => e' = .returned (.int .i64 x) ∧ Drawn0 w w')
    (c19 : ∀ w, Calls Try.prog 19 #[.int .i64 a, .int .i64 b] w fun e' w' => e' = .returned (.tuple #[.int .i64 0, .int .i64 1]) ∧ Drawn0 w w')
    (c20 : ∀ w, Calls Try.prog 20 #[.int .i64 k, .int .i64 bits] w fun e' w' => e' = .returned (.tuple #[.int .i64 x, .int .i64 0]) ∧ Drawn0 w w')
    (c21 : ∀ w, Calls Try.prog 21 #[.int .i64 a, .int .i64 k, .int .i64 b] w fun e' w' => e' = .returned (.bool t) ∧ Drawn0 w w')
    (c22 : ∀ w, Calls Try.prog 22 #[.int .i64 a, .int .i64 k, .int .i64 b] w fun e' w' => e' = .returned (.bool t) ∧ Drawn0 w w')
    (c23 : ∀ w, Calls Try.prog 23 #[.int .i64 a] w fun e' w' => e' = .returned (.int .i64 0) ∧ Drawn0 w w')
    (c24a : ∀ w, Calls Try.prog 24 #[.int .i64 a] w fun e' w' => e' = .returned (.bool true) ∧ Drawn0 w w')
    (c24b : ∀ w, Calls Try.prog 24 #[.int .i64 b] w fun e' w' => e' = .returned (.bool false) ∧ Drawn0 w w')
    (c24k : ∀ w, Calls Try.prog 24 #[.int .i64 k] w fun e' w' => e' = .returned (.bool true) ∧ Drawn0 w w')
    (c26 : ∀ w, Calls Try.prog 26 #[] w fun e' w' => e' = .returned (.bool true) ∧ Drawn0 w w') :
    Calls Try.prog 6 #[.int .i64 a, .int .i64 k, .int .i64 b, .int .i64 bits] w fun e' w' => e' = .returned (.bool true) ∧ Drawn0 w w' := by
  have h0 : decide (bits < 0) = false := decide_eq_false (by omega)
  have h1 : decide (61 < bits) = false := decide_eq_false (by omega)
  have p1 : (IntKind.i64.wrap (1 * 2 ^ min bits.toNat 64)) = p := hp
  have p2 : (IntKind.i64.wrap (1 * 2 ^ bits.toNat)) = p := shl_small hp (show bits ≤ 64 by omega)
  have p3 : (IntKind.i64.wrap (2 ^ bits.toNat)) = p := by have h := p2; rw [Int.one_mul] at h; exact h
  have p4 : (IntKind.i64.wrap (2 ^ min bits.toNat 64)) = p := by have h := p1; rw [Int.one_mul] at h; exact h
  have p5 : (wrap64 (1 * 2 ^ min bits.toNat 64)) = p := (i64_w _).symm.trans p1
  have p6 : (wrap64 (1 * 2 ^ bits.toNat)) = p := (i64_w _).symm.trans p2
  have p7 : (wrap64 (2 ^ bits.toNat)) = p := (i64_w _).symm.trans p3
  have p8 : (wrap64 (2 ^ min bits.toNat 64)) = p := (i64_w _).symm.trans p4
  clear hp p1 p2 p3 p4
  have c19' := Lib.hid c19
  clear c19
  have c20' := Lib.hid c20
  clear c20
  have c21' := Lib.hid c21
  clear c21
  have c22' := Lib.hid c22
  clear c22
  have c23' := Lib.hid c23
  clear c23
  have c24a' := Lib.hid c24a
  clear c24a
  have c24b' := Lib.hid c24b
  clear c24b
  have c24k' := Lib.hid c24k
  clear c24k
  have c26' := Lib.hid c26
  clear c26
  have c25k' := Lib.hid c25k
  clear c25k
  go_enter Try.func6, Try.ntmps6
  go_wp2_with fail
  refine (c19'.out _).mono ?_
  rintro e w' ⟨rfl, ⟨nd, rfl⟩⟩
  go_wp2_with fail
  refine (c20'.out _).mono ?_
  rintro e w' ⟨rfl, ⟨nd, rfl⟩⟩
  go_wp2_with fail
  refine (c21'.out _).mono ?_
  rintro e w' ⟨rfl, ⟨nd, rfl⟩⟩
  go_wp2_with fail
  refine (c22'.out _).mono ?_
  rintro e w' ⟨rfl, ⟨nd, rfl⟩⟩
  go_wp2_with fail
  refine (c23'.out _).mono ?_
  rintro e w' ⟨rfl, ⟨nd, rfl⟩⟩
  go_wp2_with fail
  refine (c24a'.out _).mono ?_
  rintro e w' ⟨rfl, ⟨nd, rfl⟩⟩
  go_wp2_with fail
  refine (c24a'.out _).mono ?_
  rintro e w' ⟨rfl, ⟨nd, rfl⟩⟩
  go_wp2_with fail
  refine (c24a'.out _).mono ?_
  rintro e w' ⟨rfl, ⟨nd, rfl⟩⟩
  go_wp2_with fail
  refine (c24b'.out _).mono ?_
  rintro e w' ⟨rfl, ⟨nd, rfl⟩⟩
  go_wp2_with fail
  refine (c24k'.out _).mono ?_
  rintro e w' ⟨rfl, ⟨nd, rfl⟩⟩
  go_wp2_with fail
  refine (c25k'.out _).mono ?_
  rintro e w' ⟨rfl, ⟨nd, rfl⟩⟩
  go_wp2_with fail
  refine (c26'.out _).mono ?_
  rintro e w' ⟨rfl, ⟨nd, rfl⟩⟩
  go_wp2
  go_ret
  exact ⟨by first | rfl | (simp; done), by repeat (first | exact Drawn0.refl _ | apply Drawn0.step)⟩

theorem walk22 (a k b bits : Int) (t : Bool) (w : World) (hb : bits < 0)
    (c19 : ∀ w, Calls Try.prog 19 #[.int .i64 a, .int .i64 b] w fun e' w' => e' = .returned (.tuple #[.int .i64 0, .int .i64 1]) ∧ Drawn0 w w')
    (c20 : ∀ w, Calls Try.prog 20 #[.int .i64 k, .int .i64 bits] w fun e' w' => e' = .returned (.tuple #[.int .i64 0, .int .i64 1]) ∧ Drawn0 w w')
    (c21 : ∀ w, Calls Try.prog 21 #[.int .i64 a, .int .i64 k, .int .i64 b] w fun e' w' => e' = .returned (.bool t) ∧ Drawn0 w w')
    (c22 : ∀ w, Calls Try.prog 22 #[.int .i64 a, .int .i64 k, .int .i64 b] w fun e' w' => e' = .returned (.bool t) ∧ Drawn0 w w')
    (c23 : ∀ w, Calls Try.prog 23 #[.int .i64 a] w fun e' w' => e' = .returned (.int .i64 0) ∧ Drawn0 w w')
    (c24a : ∀ w, Calls Try.prog 24 #[.int .i64 a] w fun e' w' => e' = .returned (.bool true) ∧ Drawn0 w w')
    (c24b : ∀ w, Calls Try.prog 24 #[.int .i64 b] w fun e' w' => e' = .returned (.bool false) ∧ Drawn0 w w')
    (c24k : ∀ w, Calls Try.prog 24 #[.int .i64 k] w fun e' w' => e' = .returned (.bool true) ∧ Drawn0 w w')
    (c26 : ∀ w, Calls Try.prog 26 #[] w fun e' w' => e' = .returned (.bool true) ∧ Drawn0 w w') :
    Calls Try.prog 6 #[.int .i64 a, .int .i64 k, .int .i64 b, .int .i64 bits] w fun e' w' => e' = .returned (.bool true) ∧ Drawn0 w w' := by
  have h0 : decide (bits < 0) = true := decide_eq_true hb
  have c19' := Lib.hid c19
  clear c19
  have c20' := Lib.hid c20
  clear c20
  have c21' := Lib.hid c21
  clear c21
  have c22' := Lib.hid c22
  clear c22
  have c23' := Lib.hid c23
  clear c23
  have c24a' := Lib.hid c24a
  clear c24a
  have c24b' := Lib.hid c24b
  clear c24b
  have c24k' := Lib.hid c24k
  clear c24k
  have c26' := Lib.hid c26
  clear c26
  go_enter Try.func6, Try.ntmps6
  go_wp2_with fail
  refine (c19'.out _).mono ?_
  rintro e w' ⟨rfl, ⟨nd, rfl⟩⟩
  go_wp2_with fail
  refine (c20'.out _).mono ?_
  rintro e w' ⟨rfl, ⟨nd, rfl⟩⟩
  go_wp2_with fail
  refine (c21'.out _).mono ?_
  rintro e w' ⟨rfl, ⟨nd, rfl⟩⟩
  go_wp2_with fail
  refine (c22'.out _).mono ?_
  rintro e w' ⟨rfl, ⟨nd, rfl⟩⟩
  go_wp2_with fail
  refine (c23'.out _).mono ?_
  rintro e w' ⟨rfl, ⟨nd, rfl⟩⟩
  go_wp2_with fail
  refine (c24a'.out _).mono ?_
  rintro e w' ⟨rfl, ⟨nd, rfl⟩⟩
  go_wp2_with fail
  refine (c24a'.out _).mono ?_
  rintro e w' ⟨rfl, ⟨nd, rfl⟩⟩
  go_wp2_with fail
  refine (c24a'.out _).mono ?_
  rintro e w' ⟨rfl, ⟨nd, rfl⟩⟩
  go_wp2_with fail
  refine (c24b'.out _).mono ?_
  rintro e w' ⟨rfl, ⟨nd, rfl⟩⟩
  go_wp2_with fail
  refine (c24k'.out _).mono ?_
  rintro e w' ⟨rfl, ⟨nd, rfl⟩⟩
  go_wp2_with fail
  refine (c26'.out _).mono ?_
  rintro e w' ⟨rfl, ⟨nd, rfl⟩⟩
  go_wp2
  go_ret
  exact ⟨by first | rfl | (simp; done), by repeat (first | exact Drawn0.refl _ | apply Drawn0.step)⟩

theorem walk23 (a k b bits : Int) (t : Bool) (w : World) 
    (c19 : ∀ w, Calls Try.prog 19 #[.int .i64 a, .int .i64 b] w fun e' w' => e' = .returned (.tuple #[.int .i64 0, .int .i64 1]) ∧ Drawn0 w w')
    (c20 : ∀ w, Calls Try.prog 20 #[.int .i64 k, .int .i64 bits] w fun e' w' => e' = .returned (.tuple #[.int .i64 0, .int .i64 1]) ∧ Drawn0 w w')
    (c21 : ∀ w, Calls Try.prog 21 #[.int .i64 a, .int .i64 k, .int .i64 b] w fun e' w' => e' = .returned (.bool t) ∧ Drawn0 w w')
    (c22 : ∀ w, Calls Try.prog 22 #[.int .i64 a, .int .i64 k, .int .i64 b] w fun e' w' => e' = .returned (.bool t) ∧ Drawn0 w w')
    (c23 : ∀ w, Calls Try.prog 23 #[.int .i64 a] w fun e' w' => e' = .returned (.int .i64 0) ∧ Drawn0 w w')
    (c24a : ∀ w, Calls Try.prog 24 #[.int .i64 a] w fun e' w' => e' = .returned (.bool true) ∧ Drawn0 w w')
    (c24b : ∀ w, Calls Try.prog 24 #[.int .i64 b] w fun e' w' => e' = .returned (.bool false) ∧ Drawn0 w w')
    (c24k : ∀ w, Calls Try.prog 24 #[.int .i64 k] w fun e' w' => e' = .returned (.bool false) ∧ Drawn0 w w')
    (c26 : ∀ w, Calls Try.prog 26 #[] w fun e' w' => e' = .returned (.bool true) ∧ Drawn0 w w') :
    Calls Try.prog 6 #[.int .i64 a, .int .i64 k, .int .i64 b, .int .i64 bits] w fun e' w' => e' = .returned (.bool true) ∧ Drawn0 w w' := by
  have c19' := Lib.hid c19
  clear c19
  have c20' := Lib.hid c20
  clear c20
  have c21' := Lib.hid c21
  clear c21
  have c22' := Lib.hid c22
  clear c22
  have c23' := Lib.hid c23
  clear c23
  have c24a' := Lib.hid c24a
  clear c24a
  have c24b' := Lib.hid c24b
  clear c24b
  have c24k' := Lib.hid c24k
  clear c24k
  have c26' := Lib.hid c26
  clear c26
  go_enter Try.func6, Try.ntmps6
  go_wp2_with fail
  refine (c19'.out _).mono ?_
  rintro e w' ⟨rfl, ⟨nd, rfl⟩⟩
  go_wp2_with fail
  refine (c20'.out _).mono ?_
  rintro e w' ⟨rfl, ⟨nd, rfl⟩⟩
  go_wp2_with fail
  refine (c21'.out _).mono ?_
  rintro e w' ⟨rfl, ⟨nd, rfl⟩⟩
  go_wp2_with fail
  refine (c22'.out _).mono ?_
  rintro e w' ⟨rfl, ⟨nd, rfl⟩⟩
  go_wp2_with fail
  refine (c23'.out _).mono ?_
  rintro e w' ⟨rfl, ⟨nd, rfl⟩⟩
  go_wp2_with fail
  refine (c24a'.out _).mono ?_
  rintro e w' ⟨rfl, ⟨nd, rfl⟩⟩
  go_wp2_with fail
  refine (c24a'.out _).mono ?_
  rintro e w' ⟨rfl, ⟨nd, rfl⟩⟩
  go_wp2_with fail
  refine (c24a'.out _).mono ?_
  rintro e w' ⟨rfl, ⟨nd, rfl⟩⟩
  go_wp2_with fail
  refine (c24b'.out _).mono ?_
  rintro e w' ⟨rfl, ⟨nd, rfl⟩⟩
  go_wp2_with fail
  refine (c24k'.out _).mono ?_
  rintro e w' ⟨rfl, ⟨nd, rfl⟩⟩
  go_wp2_with fail
  refine (c26'.out _).mono ?_
  rintro e w' ⟨rfl, ⟨nd, rfl⟩⟩
  go_wp2
  go_ret
  exact ⟨by first | rfl | (simp; done), by repeat (first | exact Drawn0.refl _ | apply Drawn0.step)⟩

theorem walk24 (a k b bits : Int) (t : Bool) (w : World) (hb : 61 < bits)
    (c19 : ∀ w, Calls Try.prog 19 #[.int .i64 a, .int .i64 b] w fun e' w' => e' = .returned (.tuple #[.int .i64 0, .int .i64 1]) ∧ Drawn0 w w')
    (c20 : ∀ w, Calls Try.prog 20 #[.int .i64 k, .int .i64 bits] w fun e' w' => e' = .returned (.tuple #[.int .i64 0, .int .i64 1]) ∧ Drawn0 w w')
    (c21 : ∀ w, Calls Try.prog 21 #[.int .i64 a, .int .i64 k, .int .i64 b] w fun e' w' => e' = .returned (.bool t) ∧ Drawn0 w w')
    (c22 : ∀ w, Calls Try.prog 22 #[.int .i64 a, .int .i64 k, .int .i64 b] w fun e' w' => e' = .returned (.bool t) ∧ Drawn0 w w')
    (c23 : ∀ w, Calls Try.prog 23 #[.int .i64 a] w fun e' w' => e' = .returned (.int .i64 0) ∧ Drawn0 w w')
    (c24a : ∀ w, Calls Try.prog 24 #[.int .i64 a] w fun e' w' => e' = .returned (.bool true) ∧ Drawn0 w w')
    (c24b : ∀ w, Calls Try.prog 24 #[.int .i64 b] w fun e' w' => e' = .returned (.bool false) ∧ Drawn0 w w')
    (c24k : ∀ w, Calls Try.prog 24 #[.int .i64 k] w fun e' w' => e' = .returned (.bool true) ∧ Drawn0 w w')
    (c26 : ∀ w, Calls Try.prog 26 #[] w fun e' w' => e' = .returned (.bool true) ∧ Drawn0 w w') :
    Calls Try.prog 6 #[.int .i64 a, .int .i64 k, .int .i64 b, .int .i64 bits] w fun e' w' => e' = .returned (.bool true) ∧ Drawn0 w w' := by
  have h0 : decide (bits < 0) = false := decide_eq_false (by omega)
  have h1 : decide (61 < bits) = true := decide_eq_true hb
  have c19' := Lib.hid c19
  clear c19
  have c20' := Lib.hid c20
  clear c20
  have c21' := Lib.hid c21
  clear c21
  have c22' := Lib.hid c22
  clear c22
  have c23' := Lib.hid c23
  clear c23
  have c24a' := Lib.hid c24a
  clear c24a
  have c24b' := Lib.hid c24b
  clear c24b
  have c24k' := Lib.hid c24k
  clear c24k
  have c26' := Lib.hid c26
  clear c26
  go_enter Try.func6, Try.ntmps6
  go_wp2_with fail
  refine (c19'.out _).mono ?_
  rintro e w' ⟨rfl, ⟨nd, rfl⟩⟩
  go_wp2_with fail
  refine (c20'.out _).mono ?_
  rintro e w' ⟨rfl, ⟨nd, rfl⟩⟩
  go_wp2_with fail
  refine (c21'.out _).mono ?_
  rintro e w' ⟨rfl, ⟨nd, rfl⟩⟩
  go_wp2_with fail
  refine (c22'.out _).mono ?_
  rintro e w' ⟨rfl, ⟨nd, rfl⟩⟩
  go_wp2_with fail
  refine (c23'.out _).mono ?_
  rintro e w' ⟨rfl, ⟨nd, rfl⟩⟩
  go_wp2_with fail
  refine (c24a'.out _).mono ?_
  rintro e w' ⟨rfl, ⟨nd, rfl⟩⟩
  go_wp2_with fail
  refine (c24a'.out _).mono ?_
  rintro e w' ⟨rfl, ⟨nd, rfl⟩⟩
  go_wp2_with fail
  refine (c24a'.out _).mono ?_
  rintro e w' ⟨rfl, ⟨nd, rfl⟩⟩
  go_wp2_with fail
  refine (c24b'.out _).mono ?_
  rintro e w' ⟨rfl, ⟨nd, rfl⟩⟩
  go_wp2_with fail
  refine (c24k'.out _).mono ?_
  rintro e w' ⟨rfl, ⟨nd, rfl⟩⟩
  go_wp2_with fail
  refine (c26'.out _).mono ?_
  rintro e w' ⟨rfl, ⟨nd, rfl⟩⟩
  go_wp2
  go_ret
  exact ⟨by first | rfl | (simp; done), by repeat (first | exact Drawn0.refl _ | apply Drawn0.step)⟩

theorem walk31 (a k b bits x p : Int) (t kb : Bool) (w : World) (hb0 : 0 ≤ bits) (hb1 : bits ≤ 61) (hp : shl .i64 1 bits = p) (c25k : ∀ w, Calls Try.prog 25 #[.int .i64 p, .int .i64 k] w fun e' w' => e' = .returned (.int .i64 x) ∧ Drawn0 w w')
    (c19 : ∀ w, Calls Try.prog 19 #[.int .i64 a, .int .i64 b] w fun e' w' => e' = .returned (.tuple #[.int .i64 0, .int .i64 1]) ∧ Drawn0 w w')
    (c20 : ∀ w, Calls Try.prog 20 #[.int .i64 k, .int .i64 bits] w fun e' w' => e' = .returned (.tuple #[.int .i64 x, .int .i64 0]) ∧ Drawn0 w w')
    (c21 : ∀ w, Calls Try.prog 21 #[.int .i64 a, .int .i64 k, .int .i64 b] w fun e' w' => e' = .returned (.bool t) ∧ Drawn0 w w')
    (c22 : ∀ w, Calls Try.prog 22 #[.int .i64 a, .int .i64 k, .int .i64 b] w fun e' w' => e' = .returned (.bool t) ∧ Drawn0 w w')
    (c23 : ∀ w, Calls Try.prog 23 #[.int .i64 a] w fun e' w' => e' = .returned (.int .i64 1) ∧ Drawn0 w w')
    (c24a : ∀ w, Calls Try.prog 24 #[.int .i64 a] w fun e' w' => e' = .returned (.bool false) ∧ Drawn0 w w')
    (c24b : ∀ w, Calls Try.prog 24 #[.int .i64 b] w fun e' w' => e' = .returned (.bool kb) ∧ Drawn0 w w')
    (c24k : ∀ w, Calls Try.prog 24 #[.int .i64 k] w fun e' w' => e' = .returned (.bool true) ∧ Drawn0 w w')
    (c26 : ∀ w, Calls Try.prog 26 #[] w fun e' w' => e' = .returned (.bool true) ∧ Drawn0 w w') :
    Calls Try.prog 6 #[.int .i64 a, .int .i64 k, .int .i64 b, .int .i64 bits] w fun e' w' => e' = .returned (.bool true) ∧ Drawn0 w w' := by
  have h0 : decide (bits < 0) = false := decide_eq_false (by omega)
  have h1 : decide (61 < bits) = false := decide_eq_false (by omega)
  have p1 : (IntKind.i64.wrap (1 * 2 ^ min bits.toNat 64)) = p := hp
  have p2 : (IntKind.i64.wrap (1 * 2 ^ bits.toNat)) = p := shl_small hp (show bits ≤ 64 by omega)
  have p3 : (IntKind.i64.wrap (2 ^ bits.toNat)) = p := by have h := p2; rw [Int.one_mul] at h; exact h
  have p4 : (IntKind.i64.wrap (2 ^ min bits.toNat 64)) = p := by have h := p1; rw [Int.one_mul] at h; exact h
  have p5 : (wrap64 (1 * 2 ^ min bits.toNat 64)) = p := (i64_w _).symm.trans p1
  have p6 : (wrap64 (1 * 2 ^ bits.toNat)) = p := (i64_w _).symm.trans p2
  have p7 : (wrap64 (2 ^ bits.toNat)) = p := (i64_w _).symm.trans p3
  have p8 : (wrap64 (2 ^ min bits.toNat 64)) = p := (i64_w _).symm.trans p4
  clear hp p1 p2 p3 p4
  have c19' := Lib.hid c19
  clear c19
  have c20' := Lib.hid c20
  clear c20
  have c21' := Lib.hid c21
  clear c21
  have c22' := Lib.hid c22
  clear c22
  have c23' := Lib.hid c23
  clear c23
  have c24a' := Lib.hid c24a
  clear c24a
  have c24b' := Lib.hid c24b
  clear c24b
  have c24k' := Lib.hid c24k
  clear c24k
  have c26' := Lib.hid c26
  clear c26
  have c25k' := Lib.hid c25k
  clear c25k
  go_enter Try.func6, Try.ntmps6
  go_wp2_with fail
  refine (c19'.out _).mono ?_
  rintro e w' ⟨rfl, ⟨nd, rfl⟩⟩
  go_wp2_with fail
  refine (c20'.out _).mono ?_
  rintro e w' ⟨rfl, ⟨nd, rfl⟩⟩
  go_wp2_with fail
  refine (c21'.out _).mono ?_
  rintro e w' ⟨rfl, ⟨nd, rfl⟩⟩
  go_wp2_with fail
  refine (c22'.out _).mono ?_
  rintro e w' ⟨rfl, ⟨nd, rfl⟩⟩
  go_wp2_with fail
  refine (c23'.out _).mono ?_
  rintro e w' ⟨rfl, ⟨nd, rfl⟩⟩
  go_wp2_with fail
  refine (c24a'.out _).mono ?_
  rintro e w' ⟨rfl, ⟨nd, rfl⟩⟩
  go_wp2_with fail
  refine (c24a'.out _).mono ?_
  rintro e w' ⟨rfl, ⟨nd, rfl⟩⟩
  go_wp2_with fail
  refine (c23'.out _).mono ?_
  rintro e w' ⟨rfl, ⟨nd, rfl⟩⟩
  go_wp2_with fail
  refine (c24a'.out _).mono ?_
  rintro e w' ⟨rfl, ⟨nd, rfl⟩⟩
  go_wp2_with fail
  refine (c24k'.out _).mono ?_
  rintro e w' ⟨rfl, ⟨nd, rfl⟩⟩
  go_wp2_with fail
  refine (c25k'.out _).mono ?_
  rintro e w' ⟨rfl, ⟨nd, rfl⟩⟩
  go_wp2_with fail
  refine (c26'.out _).mono ?_
  rintro e w' ⟨rfl, ⟨nd, rfl⟩⟩
  go_wp2
  go_ret
  exact ⟨by first | rfl | (simp; done), by repeat (first | exact Drawn0.refl _ | apply Drawn0.step)⟩

theorem walk32 (a k b bits : Int) (t kb : Bool) (w : World) (hb : bits < 0)
    (c19 : ∀ w, Calls Try.prog 19 #[.int .i64 a, .int .i64 b] w fun e' w' => e' = .returned (.tuple #[.int .i64 0, .int .i64 1]) ∧ Drawn0 w w')
    (c20 : ∀ w, Calls Try.prog 20 #[.int .i64 k, .int .i64 bits] w fun e' w' => e' = .returned (.tuple #[.int .i64 0, .int .i64 1]) ∧ Drawn0 w w')
    (c21 : ∀ w, Calls Try.prog 21 #[.int .i64 a, .int .i64 k, .int .i64 b] w fun e' w' => e' = .returned (.bool t) ∧ Drawn0 w w')
    (c22 : ∀ w, Calls Try.prog 22 #[.int .i64 a, .int .i64 k, .int .i64 b] w fun e' w' => e' = .returned (.bool t) ∧ Drawn0 w w')
    (c23 : ∀ w, Calls Try.prog 23 #[.int .i64 a] w fun e' w' => e' = .returned (.int .i64 1) ∧ Drawn0 w w')
    (c24a : ∀ w, Calls Try.prog 24 #[.int .i64 a] w fun e' w' => e' = .returned (.bool false) ∧ Drawn0 w w')
    (c24b : ∀ w, Calls Try.prog 24 #[.int .i64 b] w fun e' w' => e' = .returned (.bool kb) ∧ Drawn0 w w')
    (c24k : ∀ w, Calls Try.prog 24 #[.int .i64 k] w fun e' w' => e' = .returned (.bool true) ∧ Drawn0 w w')
    (c26 : ∀ w, Calls Try.prog 26 #[] w fun e' w' => e' = .returned (.bool true) ∧ Drawn0 w w') :
    Calls Try.prog 6 #[.int .i64 a, .int .i64 k, .int .i64 b, .int .i64 bits] w fun e' w' => e' = .returned (.bool true) ∧ Drawn0 w w' := by
  have h0 : decide (bits < 0) = true := decide_eq_true hb
  have c19' := Lib.hid c19
  clear c19
  have c20' := Lib.hid c20
  clear c20
  have c21' := Lib.hid c21
  clear c21
  have c22' := Lib.hid c22
  clear c22
  have c23' := Lib.hid c23
  clear c23
  have c24a' := Lib.hid c24a
  clear c24a
  have c24b' := Lib.hid c24b
  clear c24b
  have c24k' := Lib.hid c24k
  clear c24k
  have c26' := Lib.hid c26
  clear c26
  go_enter Try.func6, Try.ntmps6
  go_wp2_with fail
  refine (c19'.out _).mono ?_
  rintro e w' ⟨rfl, ⟨nd, rfl⟩⟩
  go_wp2_with fail
  refine (c20'.out _).mono ?_
  rintro e w' ⟨rfl, ⟨nd, rfl⟩⟩
  go_wp2_with fail
  refine (c21'.out _).mono ?_
  rintro e w' ⟨rfl, ⟨nd, rfl⟩⟩
  go_wp2_with fail
  refine (c22'.out _).mono ?_
  rintro e w' ⟨rfl, ⟨nd, rfl⟩⟩
  go_wp2_with fail
  refine (c23'.out _).mono ?_
  rintro e w' ⟨rfl, ⟨nd, rfl⟩⟩
  go_wp2_with fail
  refine (c24a'.out _).mono ?_
  rintro e w' ⟨rfl, ⟨nd, rfl⟩⟩
  go_wp2_with fail
  refine (c24a'.out _).mono ?_
  rintro e w' ⟨rfl, ⟨nd, rfl⟩⟩
  go_wp2_with fail
  refine (c23'.out _).mono ?_
  rintro e w' ⟨rfl, ⟨nd, rfl⟩⟩
  go_wp2_with fail
  refine (c24a'.out _).mono ?_
  rintro e w' ⟨rfl, ⟨nd, rfl⟩⟩
  go_wp2_with fail
  refine (c24k'.out _).mono ?_
  rintro e w' ⟨rfl, ⟨nd, rfl⟩⟩
  go_wp2_with fail
  refine (c26'.out _).mono ?_
  rintro e w' ⟨rfl, ⟨nd, rfl⟩⟩
  go_wp2
  go_ret
  exact ⟨by first | rfl | (simp; done), by repeat (first | exact Drawn0.refl _ | apply Drawn0.step)⟩

theorem walk33 (a k b bits : Int) (t kb : Bool) (w : World) 
    (c19 : ∀ w, Calls Try.prog 19 #[.int .i64 a, .int .i64 b] w fun e' w' => e' = .returned (.tuple #[.int .i64 0, .int .i64 1]) ∧ Drawn0 w w')
    (c20 : ∀ w, Calls Try.prog 20 #[.int .i64 k, .int .i64 bits] w fun e' w' => e' = .returned (.tuple #[.int .i64 0, .int .i64 1]) ∧ Drawn0 w w')
    (c21 : ∀ w, Calls Try.prog 21 #[.int .i64 a, .int .i64 k, .int .i64 b] w fun e' w' => e' = .returned (.bool t) ∧ Drawn0 w w')
    (c22 : ∀ w, Calls Try.prog 22 #[.int .i64 a, .int .i64 k, .int .i64 b] w fun e' w' => e' = .returned (.bool t) ∧ Drawn0 w w')
    (c23 : ∀ w, Calls Try.prog 23 #[.int .i64 a] w fun e' w' => e' = .returned (.int .i64 1) ∧ Drawn0 w w')
    (c24a : ∀ w, Calls Try.prog 24 #[.int .i64 a] w fun e' w' => e' = .returned (.bool false) ∧ Drawn0 w w')
    (c24b : ∀ w, Calls Try.prog 24 #[.int .i64 b] w fun e' w' => e' = .returned (.bool kb) ∧ Drawn0 w w')
    (c24k : ∀ w, Calls Try.prog 24 #[.int .i64 k] w fun e' w' => e' = .returned (.bool false) ∧ Drawn0 w w')
    (c26 : ∀ w, Calls Try.prog 26 #[] w fun e' w' => e' = .returned (.bool true) ∧ Drawn0 w w') :
    Calls Try.prog 6 #[.int .i64 a, .int .i64 k, .int .i64 b, .int .i64 bits] w fun e' w' => e' = .returned (.bool true) ∧ Drawn0 w w' := by
  have c19' := Lib.hid c19
  clear c19
  have c20' := Lib.hid c20
  clear c20
  have c21' := Lib.hid c21
  clear c21
  have c22' := Lib.hid c22
  clear c22
  have c23' := Lib.hid c23
  clear c23
  have c24a' := Lib.hid c24a
  clear c24a
  have c24b' := Lib.hid c24b
  clear c24b
  have c24k' := Lib.hid c24k
  clear c24k
  have c26' := Lib.hid c26
  clear c26
  go_enter Try.func6, Try.ntmps6
  go_wp2_with fail
  refine (c19'.out _).mono ?_
  rintro e w' ⟨rfl, ⟨nd, rfl⟩⟩
  go_wp2_with fail
  refine (c20'.out _).mono ?_
  rintro e w' ⟨rfl, ⟨nd, rfl⟩⟩
  go_wp2_with fail
  refine (c21'.out _).mono ?_
  rintro e w' ⟨rfl, ⟨nd, rfl⟩⟩
  go_wp2_with fail
  refine (c22'.out _).mono ?_
  rintro e w' ⟨rfl, ⟨nd, rfl⟩⟩
  go_wp2_with fail
  refine (c23'.out _).mono ?_
  rintro e w' ⟨rfl, ⟨nd, rfl⟩⟩
  go_wp2_with fail
  refine (c24a'.out _).mono ?_
  rintro e w' ⟨rfl, ⟨nd, rfl⟩⟩
  go_wp2_with fail
  refine (c24a'.out _).mono ?_
  rintro e w' ⟨rfl, ⟨nd, rfl⟩⟩
  go_wp2_with fail
  refine (c23'.out _).mono ?_
  rintro e w' ⟨rfl, ⟨nd, rfl⟩⟩
  go_wp2_with fail
  refine (c24a'.out _).mono ?_
  rintro e w' ⟨rfl, ⟨nd, rfl⟩⟩
  go_wp2_with fail
  refine (c24k'.out _).mono ?_
  rintro e w' ⟨rfl, ⟨nd, rfl⟩⟩
  go_wp2_with fail
  refine (c26'.out _).mono ?_
  rintro e w' ⟨rfl, ⟨nd, rfl⟩⟩
  go_wp2
  go_ret
  exact ⟨by first | rfl | (simp; done), by repeat (first | exact Drawn0.refl _ | apply Drawn0.step)⟩

theorem walk34 (a k b bits : Int) (t kb : Bool) (w : World) (hb : 61 < bits)
    (c19 : ∀ w, Calls Try.prog 19 #[.int .i64 a, .int .i64 b] w fun e' w' => e' = .returned (.tuple #[.int .i64 0, .int .i64 1]) ∧ Drawn0 w w')
    (c20 : ∀ w, Calls Try.prog 20 #[.int .i64 k, .int .i64 bits] w fun e' w' => e' = .returned (.tuple #[.int .i64 0, .int .i64 1]) ∧ Drawn0 w w')
    (c21 : ∀ w, Calls Try.prog 21 #[.int .i64 a, .int .i64 k, .int .i64 b] w fun e' w' => e' = .returned (.bool t) ∧ Drawn0 w w')
    (c22 : ∀ w, Calls Try.prog 22 #[.int .i64 a, .int .i64 k, .int .i64 b] w fun e' w' => e' = .returned (.bool t) ∧ Drawn0 w w')
    (c23 : ∀ w, Calls Try.prog 23 #[.int .i64 a] w fun e' w' => e' = .returned (.int .i64 1) ∧ Drawn0 w w')
    (c24a : ∀ w, Calls Try.prog 24 #[.int .i64 a] w fun e' w' => e' = .returned (.bool false) ∧ Drawn0 w w')
    (c24b : ∀ w, Calls Try.prog 24 #[.int .i64 b] w fun e' w' => e' = .returned (.bool kb) ∧ Drawn0 w w')
    (c24k : ∀ w, Calls Try.prog 24 #[.int .i64 k] w fun e' w' => e' = .returned (.bool true) ∧ Drawn0 w w')
    (c26 : ∀ w, Calls Try.prog 26 #[] w fun e' w' => e' = .returned (.bool true) ∧ Drawn0 w w') :
    Calls Try.prog 6 #[.int .i64 a, .int .i64 k, .int .i64 b, .int .i64 bits] w fun e' w' => e' = .returned (.bool true) ∧ Drawn0 w w' := by
  have h0 : decide (bits < 0) = false := decide_eq_false (by omega)
  have h1 : decide (61 < bits) = true := decide_eq_true hb
  have c19' := Lib.hid c19
  clear c19
  have c20' := Lib.hid c20
  clear c20
  have c21' := Lib.hid c21
  clear c21
  have c22' := Lib.hid c22
  clear c22
  have c23' := Lib.hid c23
  clear c23
  have c24a' := Lib.hid c24a
  clear c24a
  have c24b' := Lib.hid c24b
  clear c24b
  have c24k' := Lib.hid c24k
  clear c24k
  have c26' := Lib.hid c26
  clear c26
  go_enter Try.func6, Try.ntmps6
  go_wp2_with fail
  refine (c19'.out _).mono ?_
  rintro e w' ⟨rfl, ⟨nd, rfl⟩⟩
  go_wp2_with fail
  refine (c20'.out _).mono ?_
  rintro e w' ⟨rfl, ⟨nd, rfl⟩⟩
  go_wp2_with fail
  refine (c21'.out _).mono ?_
  rintro e w' ⟨rfl, ⟨nd, rfl⟩⟩
  go_wp2_with fail
  refine (c22'.out _).mono ?_
  rintro e w' ⟨rfl, ⟨nd, rfl⟩⟩
  go_wp2_with fail
  refine (c23'.out _).mono ?_
  rintro e w' ⟨rfl, ⟨nd, rfl⟩⟩
  go_wp2_with fail
  refine (c24a'.out _).mono ?_
  rintro e w' ⟨rfl, ⟨nd, rfl⟩⟩
  go_wp2_with fail
  refine (c24a'.out _).mono ?_
  rintro e w' ⟨rfl, ⟨nd, rfl⟩⟩
  go_wp2_with fail
  refine (c23'.out _).mono ?_
  rintro e w' ⟨rfl, ⟨nd, rfl⟩⟩
  go_wp2_with fail
  refine (c24a'.out _).mono ?_
  rintro e w' ⟨rfl, ⟨nd, rfl⟩⟩
  go_wp2_with fail
  refine (c24k'.out _).mono ?_
  rintro e w' ⟨rfl, ⟨nd, rfl⟩⟩
  go_wp2_with fail
  refine (c26'.out _).mono ?_
  rintro e w' ⟨rfl, ⟨nd, rfl⟩⟩
  go_wp2
  go_ret
  exact ⟨by first | rfl | (simp; done), by repeat (first | exact Drawn0.refl _ | apply Drawn0.step)⟩


/-- The law, for all numbers. -/
theorem keyExact_walk (a k b bits : Int) (w : World) :
    Calls Try.prog 6 #[.int .i64 a, .int .i64 k, .int .i64 b, .int .i64 bits] w fun e w' => e = .returned (.bool true) ∧ Drawn0 w w' := by
  obtain ⟨n, e, ka, kb, c, F⟩ := first_is a b
  obtain ⟨x, f, kk, S⟩ := second_is k bits
  obtain ⟨t, t1, t2⟩ := between_some a k b
  have c19 := fun w => key_Behind.calls a b n e w F.behind
  have c20 := fun w => key_Back.calls k bits x f w S.back
  have c21 := fun w => key_Between.calls 1 a k b t w t1
  have c22 := fun w => bellwetherref01_Between.calls 1 a k b t w t2
  have c23 := fun w => key_Check.calls a c w F.check
  have c24a := fun w => bellwetherref01_Key.calls a ka w F.keyA
  have c24b := fun w => bellwetherref01_Key.calls b kb w F.keyB
  have c24k := fun w => bellwetherref01_Key.calls k kk w S.keyK
  have c26 := fun w => bellwetherlaw02_wakes.calls 1 true w (wakes_ok 0)
  rcases F.cases with ⟨rfl, rfl, rfl, rfl, hb⟩ | ⟨rfl, rfl, rfl, rfl, rfl⟩ | ⟨rfl, rfl, rfl, rfl⟩
  · have c25 := fun w => bellwetherref01_Behind.calls a b n w hb
    rcases S.cases with ⟨rfl, h0, h1, rfl, p, hp, hq⟩ | ⟨rfl, h0 | h0, rfl, rfl⟩ | ⟨rfl, rfl, rfl⟩
    · exact walk11 a k b bits n x p t w c25 h0 h1 hp (fun w => bellwetherref01_Behind.calls p k x w hq) c19 c20 c21 c22 c23 c24a c24b c24k c26
    · exact walk12 a k b bits n t w c25 h0 c19 c20 c21 c22 c23 c24a c24b c24k c26
    · exact walk14 a k b bits n t w c25 h0 c19 c20 c21 c22 c23 c24a c24b c24k c26
    · exact walk13 a k b bits n t w c25 c19 c20 c21 c22 c23 c24a c24b c24k c26
  · rcases S.cases with ⟨rfl, h0, h1, rfl, p, hp, hq⟩ | ⟨rfl, h0 | h0, rfl, rfl⟩ | ⟨rfl, rfl, rfl⟩
    · exact walk21 a k b bits x p t w h0 h1 hp (fun w => bellwetherref01_Behind.calls p k x w hq) c19 c20 c21 c22 c23 c24a c24b c24k c26
    · exact walk22 a k b bits t w h0 c19 c20 c21 c22 c23 c24a c24b c24k c26
    · exact walk24 a k b bits t w h0 c19 c20 c21 c22 c23 c24a c24b c24k c26
    · exact walk23 a k b bits t w c19 c20 c21 c22 c23 c24a c24b c24k c26
  · rcases S.cases with ⟨rfl, h0, h1, rfl, p, hp, hq⟩ | ⟨rfl, h0 | h0, rfl, rfl⟩ | ⟨rfl, rfl, rfl⟩
    · exact walk31 a k b bits x p t kb w h0 h1 hp (fun w => bellwetherref01_Behind.calls p k x w hq) c19 c20 c21 c22 c23 c24a c24b c24k c26
    · exact walk32 a k b bits t kb w h0 c19 c20 c21 c22 c23 c24a c24b c24k c26
    · exact walk34 a k b bits t kb w h0 c19 c20 c21 c22 c23 c24a c24b c24k c26
    · exact walk33 a k b bits t kb w c19 c20 c21 c22 c23 c24a c24b c24k c26

end Go.Proofs.Ytebfhfahkigdlaa.KeyPlain
