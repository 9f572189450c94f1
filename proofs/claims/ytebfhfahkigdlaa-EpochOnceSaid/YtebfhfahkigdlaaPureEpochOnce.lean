/- For all numbers the law EpochOnce's printed function answers true. No condition beside the numbers' kinds. -/
import Derived.Test.YtebfhfahkigdlaaPEpochOncex1
namespace Go.Proofs.Ytebfhfahkigdlaa.Pure
open Go.RowKit Go.Proofs.Ytebfhfahkigdlaa.PEpochOnce Go.Proofs.YtebfhfahkigdlaaW.PrintWords Go.Proofs.YtebfhfahkigdlaaW.PrintLast

theorem umod (a : Int) (m : Int) (h0 : 0 < m) (h1 : m ≤ 4611686018427387904) :
    ∃ r, wrap64 (Int.tmod (IntKind.u64.wrap a) m) = r ∧ 0 ≤ r ∧ r < m := by
  refine ⟨_, rfl, ?_⟩
  have hw : 0 ≤ IntKind.u64.wrap a := by
    simp [IntKind.wrap, IntKind.signed, IntKind.bits]
    omega
  rw [Int.tmod_eq_emod_of_nonneg hw]
  have h2 := Int.emod_nonneg (IntKind.u64.wrap a) (show m ≠ 0 by omega)
  have h3 := Int.emod_lt_of_pos (IntKind.u64.wrap a) h0
  unfold wrap64
  omega

theorem ring_is (a : Int) : ring_Is.f a = some (decide (0 ≤ a ∧ a < 8)) := by
  unfold ring_Is.f ring_in.f
  by_cases h : a ≥ 0
  · rw [if_pos h]; simp; omega
  · rw [if_neg h]; simp; omega

theorem tmod16 (a : Int) (h : 0 ≤ a) : Int.tmod a 16 = a % 16 := Int.tmod_eq_emod_of_nonneg h

theorem check_yes (a : Int) (h0 : 1 ≤ a) (h1 : a ≤ 1073741824) (h2 : a % 16 < 8) : epoch_Check.f a = some 0 := by
  unfold epoch_Check.f
  rw [if_neg (by omega), if_neg (by omega), ring_is, tmod16 a (by omega)]
  simp; omega

theorem check_no (a : Int) (h : ¬ (1 ≤ a ∧ a ≤ 1073741824 ∧ a % 16 < 8)) : epoch_Check.f a = some 1 := by
  unfold epoch_Check.f
  by_cases h0 : a < 1
  · rw [if_pos h0]
  rw [if_neg h0]
  by_cases h1 : a > 1073741824
  · rw [if_pos h1]
  rw [if_neg h1, ring_is, tmod16 a (by omega)]
  simp; omega

theorem who_yes (a : Int) (h0 : 1 ≤ a) (h1 : a ≤ 1073741824) (h2 : a % 16 < 8) : epoch_Who.f a = some (a % 16, 0) := by
  unfold epoch_Who.f
  rw [check_yes a h0 h1 h2, tmod16 a (by omega)]
  rfl

theorem who_no (a : Int) (h : ¬ (1 ≤ a ∧ a ≤ 1073741824 ∧ a % 16 < 8)) : epoch_Who.f a = some (0, 1) := by
  unfold epoch_Who.f
  rw [check_no a h]
  rfl

/-- The next epoch of a node above another one, as a number; 0: none. -/
def nx (n a : Int) : Int := if a - a % 16 + n ≤ a then a - a % 16 + n + 16 else a - a % 16 + n

theorem next_is (k : Nat) (n a : Int) (h0 : 0 ≤ n) (h1 : n < 8) (h2 : 0 ≤ a) (h3 : a ≤ 1073741824) :
    epoch_Next.f (k + 1) n a = some (if nx n a > 1073741824 then (0, 11) else (nx n a, 0)) := by
  unfold epoch_Next.f
  rw [ring_is]
  simp only [Option.bind_some]
  rw [if_pos (by simp; omega), if_neg (by omega)]
  simp only [epoch_Next.j0]
  rw [if_neg (by simp; omega), tmod16 a h2]
  have e1 : wrap64 (wrap64 (a - a % 16) + n) = a - a % 16 + n := by unfold wrap64; omega
  rw [e1]
  unfold nx
  by_cases h : a - a % 16 + n ≤ a
  · have e2 : wrap64 (a - a % 16 + n + 16) = a - a % 16 + n + 16 := by unfold wrap64; omega
    rw [if_pos h, if_pos h, e2]
    split <;> rfl
  · rw [if_neg h, if_neg h]
    split <;> rfl

theorem next_ok (k : Nat) (n a : Int) (h0 : 0 ≤ n) (h1 : n < 8) (h2 : 0 ≤ a) (h3 : a ≤ 1073741800) :
    ∃ x, epoch_Next.f (k + 1) n a = some (x, 0) ∧ a < x ∧ x ≤ a + 16 ∧ x % 16 = n := by
  have hx : a < nx n a ∧ nx n a ≤ a + 16 ∧ nx n a % 16 = n := by unfold nx; split <;> omega
  refine ⟨nx n a, ?_, hx⟩
  rw [next_is k n a h0 h1 h2 (by omega), if_neg (by omega)]

theorem next_bad (k : Nat) (n a : Int) (h : ¬ (0 ≤ n ∧ n < 8 ∧ 0 ≤ a ∧ a ≤ 1073741824)) : epoch_Next.f (k + 1) n a = some (0, 1) := by
  unfold epoch_Next.f
  rw [ring_is]
  simp only [Option.bind_some]
  by_cases h0 : 0 ≤ n ∧ n < 8
  · rw [if_pos (by simp; omega)]
    by_cases h1 : a < 0
    · rw [if_pos h1]; simp [epoch_Next.j0]
    · rw [if_neg h1]
      have : (decide (a > 1073741824)) = true := by simp; omega
      rw [this]; simp [epoch_Next.j0]
  · rw [if_neg (by simp; omega)]; simp [epoch_Next.j0]

theorem wakes_ok (k : Nat) : bellwetherlaw14_wakes.f (k + 1) = some true := by
  unfold bellwetherlaw14_wakes.f
  rw [next_is k 3 0 (by omega) (by omega) (by omega) (by omega), next_is k 0 0 (by omega) (by omega) (by omega) (by omega),
    who_yes 35 (by omega) (by omega) (by omega), check_no 0 (by omega), check_no 8 (by omega)]
  decide

theorem EpochOnce : bellwetherlaw14_EpochOnce.Pure := by
  intro a0 a1 a2 a3 _ _ _ _
  refine ⟨4, ?_⟩
  obtain ⟨n, en, hn0, hn1⟩ := umod a0 8 (by omega) (by omega)
  obtain ⟨m, em, hm0, hm1⟩ := umod a1 8 (by omega) (by omega)
  obtain ⟨a, ea, ha0, ha1⟩ := umod a2 1073741784 (by omega) (by omega)
  obtain ⟨b, eb, hb0, hb1⟩ := umod a3 1073741784 (by omega) (by omega)
  unfold bellwetherlaw14_EpochOnce.f
  rw [en, em, ea, eb]
  obtain ⟨x, ex, hx0, hx1, hx2⟩ := next_ok 3 n a hn0 hn1 ha0 (by omega)
  obtain ⟨y, ey, hy0, hy1, hy2⟩ := next_ok 3 m b hm0 hm1 hb0 (by omega)
  obtain ⟨z, ez, hz0, hz1, hz2⟩ := next_ok 3 n x hn0 hn1 (by omega) (by omega)
  obtain ⟨w, ew, hw0, hw1, hw2⟩ := next_ok 3 n b hn0 hn1 hb0 (by omega)
  have c0 := check_yes x (by omega) (by omega) (by omega)
  have i0 := who_yes x (by omega) (by omega) (by omega)
  have j0 := who_yes y (by omega) (by omega) (by omega)
  rw [hx2] at i0
  rw [hy2] at j0
  have hk : bellwetherlaw14_wakes.f 3 = some true := wakes_ok 2
  have e1 : wrap64 (x + 16) = x + 16 := by unfold wrap64; omega
  have hz : z = x + 16 := by omega
  rw [ex, ey]
  simp only [Option.bind_some]
  rw [ez, ew, i0, j0]
  simp only [Option.bind_some, if_true, bne_self_eq_false, bellwetherlaw14_EpochOnce.j0]
  rw [if_neg (by simp), if_pos (by omega)]
  have e2 : wrap64 (a + 16) = a + 16 := by unfold wrap64; omega
  rw [e2, if_pos (by omega), e1, hz, c0]
  simp only [Option.bind_some, if_true, hk]
  by_cases hxy : x = y
  · rw [if_pos hxy, if_pos (show n = m by omega)]
    by_cases hab : a > b
    · rw [if_pos hab]
    · rw [if_neg hab, if_pos (show x ≤ w by omega)]
  · rw [if_neg hxy]
    by_cases hab : a > b
    · rw [if_pos hab]
    · rw [if_neg hab, if_pos (show x ≤ w by omega)]

end Go.Proofs.Ytebfhfahkigdlaa.Pure
