/- What package ring's and package key's functions answer, and the document's, for all numbers: each as a plain Lean function. No condition beside the numbers' bounds that each states. -/
import Derived.Test.YteeibpeefhaoiaaProg
import Derived.WalkKit
import Derived.Lib.Hide
import Derived.OwnWalk
import Derived.ProofKit
import Derived.KernelRfl
namespace Go.Proofs.Yteeibpeefhaoiaa
open Go.RowKit
set_option linter.unusedVariables false

/-- A call that answers, and leaves all that lay there as it was. -/
structure Up (w w' : World) : Prop where mk :: (out : Below w.heap.size w w')
theorem Up.refl (w : World) : Up w w := ⟨Below.refl _ _⟩
theorem Up.trans {w w1 w2 : World} (h : Up w w1) (k : Up w1 w2) : Up w w2 :=
  ⟨h.out.trans ⟨k.out.os, k.out.tape, k.out.output, k.out.size, fun i hi => k.out.block i (Nat.lt_of_lt_of_le hi h.out.size)⟩⟩
theorem Up.alloc (w : World) (o : Obj) : Up w (w.alloc o) := ⟨(Below.refl _ _).alloc (Nat.le_refl _) o⟩
theorem Up.drew (w : World) : Up w w.drew := ⟨(Below.refl _ _).drew⟩
theorem Up.setNew {w : World} {w1 : World} (h : Up w w1) (p : Addr) (v : Value) (hp : w.heap.size ≤ p.block) : Up w (w1.setCell p v) := ⟨h.out.setCell hp v⟩
def Ret (v : Value) (w : World) (e : Ending) (w' : World) : Prop := e = .returned v ∧ Up w w'

/-! ### plain -/
def inB (n m : Int) : Bool := decide (0 ≤ n) && decide (n < m)
theorem inB_true {n m : Int} : inB n m = true ↔ 0 ≤ n ∧ n < m := by simp [inB]
theorem inB_false {n m : Int} : inB n m = false ↔ ¬ (0 ≤ n ∧ n < m) := by rw [← Bool.not_eq_true, inB_true]
def nks : List Int := [2342812313538366385, 1863050908023769503, 81111313352671826, 2434324899588211290, 2454816673080883147, 1342378062264523301, 820659310660760249, 2006264061484817761]
def tks : List Int := [1462484242049070477, 1775212608919665246, 3535639072113518480, 3725500155902745375]
def nk (n : Int) : Int := nks.getD n.toNat 0
def tk (t : Int) : Int := tks.getD t.toNat 0
def Key (a : Int) : Prop := 0 ≤ a ∧ a < 4611686018427387904
def fr (k n : Int) : Int := if n - k < 0 then n - k + 4611686018427387904 else n - k
theorem fr_is (k n : Int) : (fr k n = n - k ∧ k ≤ n) ∨ (fr k n = n - k + 4611686018427387904 ∧ n < k) := by
  unfold fr; split <;> omega
theorem eight {n : Int} (h : 0 ≤ n ∧ n < 8) : n = 0 ∨ n = 1 ∨ n = 2 ∨ n = 3 ∨ n = 4 ∨ n = 5 ∨ n = 6 ∨ n = 7 := by omega
theorem four {n : Int} (h : 0 ≤ n ∧ n < 4) : n = 0 ∨ n = 1 ∨ n = 2 ∨ n = 3 := by omega
theorem nk_key {n : Int} (h : 0 ≤ n ∧ n < 8) : Key (nk n) := by
  rcases eight h with rfl | rfl | rfl | rfl | rfl | rfl | rfl | rfl <;> (unfold Key; decide)
theorem tk_key {n : Int} (h : 0 ≤ n ∧ n < 4) : Key (tk n) := by
  rcases four h with rfl | rfl | rfl | rfl <;> (unfold Key; decide)
/-- A gap. -/
def gp (t n : Int) : Int := fr (tk t) (nk n)

/-! ### the walks -/
theorem in_ (n m : Int) (w : World) : Calls Try.prog 38 #[.int .i64 n, .int .i64 m] w (Ret (.bool (inB n m)) w) := by
  by_cases h0 : 0 ≤ n
  · have e : inB n m = decide (n < m) := by simp [inB, h0]
    rw [e]
    have h1 : decide (0 ≤ n) = true := decide_eq_true h0
    clear e h0
    go_enter Try.func38, Try.ntmps38
    go_wp2
    all_goals (go_ret; exact ⟨by first | rfl | simp [*], Up.refl _⟩)
  · have e : inB n m = false := by simp [inB, h0]
    rw [e]
    have h1 : decide (0 ≤ n) = false := decide_eq_false h0
    clear e h0
    go_enter Try.func38, Try.ntmps38
    go_wp2
    all_goals (go_ret; exact ⟨by first | rfl | simp [*], Up.refl _⟩)

theorem is_ (n : Int) (w : World) : Calls Try.prog 36 #[.int .i64 n] w (Ret (.bool (inB n 8)) w) := by
  go_enter Try.func36, Try.ntmps36
  go_wp2_with fail
  refine (in_ n 8 _).mono ?_
  rintro e w1 ⟨rfl, h1⟩
  go_wp2
  go_ret
  exact ⟨rfl, h1⟩

def nodesV : Value := .agg #[.int .i64 2342812313538366385, .int .i64 1863050908023769503, .int .i64 81111313352671826, .int .i64 2434324899588211290, .int .i64 2454816673080883147, .int .i64 1342378062264523301, .int .i64 820659310660760249, .int .i64 2006264061484817761]
def topicsV : Value := .agg #[.int .i64 1462484242049070477, .int .i64 1775212608919665246, .int .i64 3535639072113518480, .int .i64 3725500155902745375]

theorem nodes_ (w : World) : Calls Try.prog 37 #[] w (Ret nodesV w) := by
  go_enter Try.func37, Try.ntmps37
  go_wp2
  exact bodyPost_ret (v := nodesV) (by simp [results, Try.results37, go_sem, nodesV]) rfl ⟨rfl, ⟨(((Below.refl _ _).alloc (Nat.le_refl _) _))⟩⟩

theorem topics_ (w : World) : Calls Try.prog 39 #[] w (Ret topicsV w) := by
  go_enter Try.func39, Try.ntmps39
  go_wp2
  exact bodyPost_ret (v := topicsV) (by simp [results, Try.results39, go_sem, topicsV]) rfl ⟨rfl, ⟨(((Below.refl _ _).alloc (Nat.le_refl _) _))⟩⟩

def ok1 (b : Bool) (x : Int) : Value := if b = true then .tuple #[.int .i64 x, .int .i64 0] else .tuple #[.int .i64 0, .int .i64 1]

theorem node_at (m : Int) (w : World) (H : Hid (inB m 8 = true)) (hi : ∀ W, Sem.run Try.prog (Instr.index 46 nodesV (.int .i64 m)) W = .ok (.int .i64 (nk m)) W) :
    Calls Try.prog 12 #[.int .i64 m] w (Ret (.tuple #[.int .i64 (nk m), .int .i64 0]) w) := by
  go_enter Try.func12, Try.ntmps12
  go_wp2_with fail
  refine (is_ _ _).mono ?_
  rintro e w1 ⟨rfl, h1⟩
  rw [H.out]
  go_wp2_with fail
  refine (nodes_ _).mono ?_
  rintro e w2 ⟨rfl, h2⟩
  go_wp2
  go_ret2
  exact ⟨rfl, h1.trans h2⟩

theorem node_ (n : Int) (w : World) : Calls Try.prog 12 #[.int .i64 n] w (Ret (ok1 (inB n 8) (nk n)) w) := by
  by_cases h : 0 ≤ n ∧ n < 8
  · have e : inB n 8 = true := inB_true.2 h
    rw [e]
    refine node_at n w (Lib.hid e) ?_
    rcases eight h with rfl | rfl | rfl | rfl | rfl | rfl | rfl | rfl <;> (intro W; kernel_rfl)
  · have e : inB n 8 = false := inB_false.2 h
    have H := Lib.hid e
    have e2 : ok1 (inB n 8) (nk n) = .tuple #[.int .i64 0, .int .i64 1] := by rw [e]; rfl
    rw [e2]
    clear e e2 h
    go_enter Try.func12, Try.ntmps12
    go_wp2_with fail
    refine (is_ _ _).mono ?_
    rintro e w1 ⟨rfl, h1⟩
    rw [H.out]
    go_wp2
    go_ret2
    exact ⟨rfl, h1⟩

theorem topic_at (m : Int) (w : World) (H : Hid (inB m 4 = true)) (hi : ∀ W, Sem.run Try.prog (Instr.index 49 topicsV (.int .i64 m)) W = .ok (.int .i64 (tk m)) W) :
    Calls Try.prog 13 #[.int .i64 m] w (Ret (.tuple #[.int .i64 (tk m), .int .i64 0]) w) := by
  go_enter Try.func13, Try.ntmps13
  go_wp2_with fail
  refine (in_ _ 4 _).mono ?_
  rintro e w1 ⟨rfl, h1⟩
  rw [H.out]
  go_wp2_with fail
  refine (topics_ _).mono ?_
  rintro e w2 ⟨rfl, h2⟩
  go_wp2
  go_ret2
  exact ⟨rfl, h1.trans h2⟩

theorem topic_ (n : Int) (w : World) : Calls Try.prog 13 #[.int .i64 n] w (Ret (ok1 (inB n 4) (tk n)) w) := by
  by_cases h : 0 ≤ n ∧ n < 4
  · have e : inB n 4 = true := inB_true.2 h
    rw [e]
    refine topic_at n w (Lib.hid e) ?_
    rcases four h with rfl | rfl | rfl | rfl <;> (intro W; kernel_rfl)
  · have e : inB n 4 = false := inB_false.2 h
    have H := Lib.hid e
    have e2 : ok1 (inB n 4) (tk n) = .tuple #[.int .i64 0, .int .i64 1] := by rw [e]; rfl
    rw [e2]
    clear e e2 h
    go_enter Try.func13, Try.ntmps13
    go_wp2_with fail
    refine (in_ _ 4 _).mono ?_
    rintro e w1 ⟨rfl, h1⟩
    rw [H.out]
    go_wp2
    go_ret2
    exact ⟨rfl, h1⟩

theorem far_ (k n : Int) (w : World) (hk : Key k) (hn : Key n) : Calls Try.prog 40 #[.int .i64 k, .int .i64 n] w (Ret (.int .i64 (fr k n)) w) := by
  obtain ⟨k0, k1⟩ := hk
  obtain ⟨n0, n1⟩ := hn
  by_cases h : n - k < 0
  · have e : fr k n = n - k + 4611686018427387904 := by unfold fr; rw [if_pos h]
    rw [e]
    clear e
    go_enter Try.func40, Try.ntmps40
    go_wp2
    go_ret
    exact ⟨rfl, Up.refl _⟩
  · have e : fr k n = n - k := by unfold fr; rw [if_neg h]
    rw [e]
    clear e
    go_enter Try.func40, Try.ntmps40
    go_wp2
    go_ret
    exact ⟨rfl, Up.refl _⟩

theorem gap_ (t n : Int) (w : World) : Calls Try.prog 14 #[.int .i64 t, .int .i64 n] w (Ret (ok1 (inB t 4 && inB n 8) (gp t n)) w) := by
  cases ht : inB t 4 with
  | false =>
    have Ht := Lib.hid ht
    have e : ok1 (false && inB n 8) (gp t n) = .tuple #[.int .i64 0, .int .i64 1] := rfl
    rw [e]
    clear e ht
    go_enter Try.func14, Try.ntmps14
    go_wp2_with fail
    refine (topic_ _ _).mono ?_
    rintro e w1 ⟨rfl, h1⟩
    rw [show ok1 (inB t 4) (tk t) = .tuple #[.int .i64 0, .int .i64 1] by rw [Ht.out]; rfl]
    go_wp2
    go_ret2
    exact ⟨rfl, h1⟩
  | true =>
    have Ht := Lib.hid ht
    have hk := tk_key (inB_true.1 ht)
    clear ht
    cases hn : inB n 8 with
    | false =>
      have Hn := Lib.hid hn
      have e : ok1 (true && false) (gp t n) = .tuple #[.int .i64 0, .int .i64 1] := rfl
      rw [e]
      clear e hn
      go_enter Try.func14, Try.ntmps14
      go_wp2_with fail
      refine (topic_ _ _).mono ?_
      rintro e w1 ⟨rfl, h1⟩
      rw [show ok1 (inB t 4) (tk t) = .tuple #[.int .i64 (tk t), .int .i64 0] by rw [Ht.out]; rfl]
      go_wp2_with fail
      refine (node_ _ _).mono ?_
      rintro e w2 ⟨rfl, h2⟩
      rw [show ok1 (inB n 8) (nk n) = .tuple #[.int .i64 0, .int .i64 1] by rw [Hn.out]; rfl]
      go_wp2
      go_ret2
      exact ⟨rfl, h1.trans h2⟩
    | true =>
      have Hn := Lib.hid hn
      have hm := nk_key (inB_true.1 hn)
      have e : ok1 (true && true) (gp t n) = .tuple #[.int .i64 (fr (tk t) (nk n)), .int .i64 0] := rfl
      rw [e]
      clear e hn
      go_enter Try.func14, Try.ntmps14
      go_wp2_with fail
      refine (topic_ _ _).mono ?_
      rintro e w1 ⟨rfl, h1⟩
      rw [show ok1 (inB t 4) (tk t) = .tuple #[.int .i64 (tk t), .int .i64 0] by rw [Ht.out]; rfl]
      go_wp2_with fail
      refine (node_ _ _).mono ?_
      rintro e w2 ⟨rfl, h2⟩
      rw [show ok1 (inB n 8) (nk n) = .tuple #[.int .i64 (nk n), .int .i64 0] by rw [Hn.out]; rfl]
      go_wp2_with fail
      refine (far_ _ _ _ hk hm).mono ?_
      rintro e w3 ⟨rfl, h3⟩
      go_wp2
      go_ret2
      exact ⟨rfl, (h1.trans h2).trans h3⟩

/-- Is a nearer behind t than b? -/
def nr (t a b : Int) : Bool := (inB t 4 && inB a 8) && ((inB t 4 && inB b 8) && decide (gp t a < gp t b))

theorem nearer_ (t a b : Int) (w : World) : Calls Try.prog 16 #[.int .i64 t, .int .i64 a, .int .i64 b] w (Ret (.bool (nr t a b)) w) := by
  unfold nr
  generalize hx : gp t a = x
  generalize hy : gp t b = y
  cases h1 : (inB t 4 && inB a 8) <;> cases h2 : (inB t 4 && inB b 8)
  all_goals
    have H1 := Lib.hid h1
    have H2 := Lib.hid h2
    have Hx := Lib.hid hx
    have Hy := Lib.hid hy
    clear h1 h2 hx hy
    go_enter Try.func16, Try.ntmps16
    go_wp2_with fail
    refine (gap_ _ _ _).mono ?_
    rintro e w1 ⟨rfl, u1⟩
    rw [H1.out, Hx.out]
    simp only [ok1, if_true, Bool.false_eq_true, if_false]
    go_wp2_with fail
    refine (gap_ _ _ _).mono ?_
    rintro e w2 ⟨rfl, u2⟩
    rw [H2.out, Hy.out]
    simp only [ok1, if_true, Bool.false_eq_true, if_false]
    go_wp2
    go_ret
    exact ⟨rfl, u1.trans u2⟩

end Go.Proofs.Yteeibpeefhaoiaa
