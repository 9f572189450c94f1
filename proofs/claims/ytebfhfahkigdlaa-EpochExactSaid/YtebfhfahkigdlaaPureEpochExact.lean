/- For all numbers the law EpochExact's printed function answers true. No condition beside the numbers' kinds. -/
import Derived.Test.YtebfhfahkigdlaaPEpochExactx2
namespace Go.Proofs.Ytebfhfahkigdlaa.Pure
open Go.RowKit Go.Proofs.Ytebfhfahkigdlaa.PEpochExact Go.Proofs.YtebfhfahkigdlaaW.PrintWords Go.Proofs.YtebfhfahkigdlaaW.PrintLast

theorem umod (a : Int) (m : Int) (h0 : 0 < m) (h1 : m ≤ 4611686018427387904) :
    ∃ r, wrap64 (Int.tmod (IntKind.u64.wrap a) m) = r ∧ 0 ≤ r ∧ r < m := by
  refine ⟨_, rfl, ?_⟩
  have hw : 0 ≤ IntKind.u64.wrap a := by
    simp [IntKind.wrap, IntKind.signed, IntKind.bits]
    omega
  rw [Int.tmod_eq_emod_of_nonneg hw]
  have h2 := Int.emod_nonneg (IntKind.u64.wrap a) (show m ≠ 0 by omega)
  have h3 := Int.emod_lt_of_pos (IntKind.u64.wrap a) h0
  unfold wrap64
  omega

theorem ring_is (a : Int) : ring_Is.f a = some (decide (0 ≤ a ∧ a < 8)) := by
  unfold ring_Is.f ring_in.f
  by_cases h : a ≥ 0
  · rw [if_pos h]; simp; omega
  · rw [if_neg h]; simp; omega

theorem tmod16 (a : Int) (h : 0 ≤ a) : Int.tmod a 16 = a % 16 := Int.tmod_eq_emod_of_nonneg h

theorem check_yes (a : Int) (h0 : 1 ≤ a) (h1 : a ≤ 1073741824) (h2 : a % 16 < 8) : epoch_Check.f a = some 0 := by
  unfold epoch_Check.f
  rw [if_neg (by omega), if_neg (by omega), ring_is, tmod16 a (by omega)]
  simp; omega

theorem check_no (a : Int) (h : ¬ (1 ≤ a ∧ a ≤ 1073741824 ∧ a % 16 < 8)) : epoch_Check.f a = some 1 := by
  unfold epoch_Check.f
  by_cases h0 : a < 1
  · rw [if_pos h0]
  rw [if_neg h0]
  by_cases h1 : a > 1073741824
  · rw [if_pos h1]
  rw [if_neg h1, ring_is, tmod16 a (by omega)]
  simp; omega

theorem who_yes (a : Int) (h0 : 1 ≤ a) (h1 : a ≤ 1073741824) (h2 : a % 16 < 8) : epoch_Who.f a = some (a % 16, 0) := by
  unfold epoch_Who.f
  rw [check_yes a h0 h1 h2, tmod16 a (by omega)]
  rfl

theorem who_no (a : Int) (h : ¬ (1 ≤ a ∧ a ≤ 1073741824 ∧ a % 16 < 8)) : epoch_Who.f a = some (0, 1) := by
  unfold epoch_Who.f
  rw [check_no a h]
  rfl

/-- The next epoch of a node above another one, as a number; 0: none. -/
def nx (n a : Int) : Int := if a - a % 16 + n ≤ a then a - a % 16 + n + 16 else a - a % 16 + n

theorem next_is (k : Nat) (n a : Int) (h0 : 0 ≤ n) (h1 : n < 8) (h2 : 0 ≤ a) (h3 : a ≤ 1073741824) :
    epoch_Next.f (k + 1) n a = some (if nx n a > 1073741824 then (0, 11) else (nx n a, 0)) := by
  unfold epoch_Next.f
  rw [ring_is]
  simp only [Option.bind_some]
  rw [if_pos (by simp; omega), if_neg (by omega)]
  simp only [epoch_Next.j0]
  rw [if_neg (by simp; omega), tmod16 a h2]
  have e1 : wrap64 (wrap64 (a - a % 16) + n) = a - a % 16 + n := by unfold wrap64; omega
  rw [e1]
  unfold nx
  by_cases h : a - a % 16 + n ≤ a
  · have e2 : wrap64 (a - a % 16 + n + 16) = a - a % 16 + n + 16 := by unfold wrap64; omega
    rw [if_pos h, if_pos h, e2]
    split <;> rfl
  · rw [if_neg h, if_neg h]
    split <;> rfl

theorem next_ok (k : Nat) (n a : Int) (h0 : 0 ≤ n) (h1 : n < 8) (h2 : 0 ≤ a) (h3 : a ≤ 1073741800) :
    ∃ x, epoch_Next.f (k + 1) n a = some (x, 0) ∧ a < x ∧ x ≤ a + 16 ∧ x % 16 = n := by
  have hx : a < nx n a ∧ nx n a ≤ a + 16 ∧ nx n a % 16 = n := by unfold nx; split <;> omega
  refine ⟨nx n a, ?_, hx⟩
  rw [next_is k n a h0 h1 h2 (by omega), if_neg (by omega)]

theorem next_bad (k : Nat) (n a : Int) (h : ¬ (0 ≤ n ∧ n < 8 ∧ 0 ≤ a ∧ a ≤ 1073741824)) : epoch_Next.f (k + 1) n a = some (0, 1) := by
  unfold epoch_Next.f
  rw [ring_is]
  simp only [Option.bind_some]
  by_cases h0 : 0 ≤ n ∧ n < 8
  · rw [if_pos (by simp; omega)]
    by_cases h1 : a < 0
    · rw [if_pos h1]; simp [epoch_Next.j0]
    · rw [if_neg h1]
      have : (decide (a > 1073741824)) = true := by simp; omega
      rw [this]; simp [epoch_Next.j0]
  · rw [if_neg (by simp; omega)]; simp [epoch_Next.j0]

theorem wakes_ok (k : Nat) : bellwetherlaw14_wakes.f (k + 1) = some true := by
  unfold bellwetherlaw14_wakes.f
  rw [next_is k 3 0 (by omega) (by omega) (by omega) (by omega), next_is k 0 0 (by omega) (by omega) (by omega) (by omega),
    who_yes 35 (by omega) (by omega) (by omega), check_no 0 (by omega), check_no 8 (by omega)]
  decide

theorem ref_in (a b c : Int) : bellwetherref01_In.f a b c = some (decide (b ≤ a ∧ a ≤ c)) := by
  unfold bellwetherref01_In.f
  by_cases h : a ≥ b
  · rw [if_pos h]; simp; omega
  · rw [if_neg h]; simp; omega

theorem ref10_in (a b c : Int) : bellwetherref10_in.f a b c = some (decide (b ≤ a ∧ a ≤ c)) := by
  unfold bellwetherref10_in.f
  by_cases h : a ≥ b
  · rw [if_pos h]; simp; omega
  · rw [if_neg h]; simp; omega

theorem ref_node (a : Int) : bellwetherref01_IsNode.f a = some (decide (0 ≤ a ∧ a < 8)) := by
  unfold bellwetherref01_IsNode.f
  rw [ref_in]; exact congrArg some (decide_eq_decide.2 (by omega))

theorem ref_epoch (a : Int) : bellwetherref10_Epoch.f a = some (decide (1 ≤ a ∧ a ≤ 1073741824 ∧ a % 16 < 8)) := by
  unfold bellwetherref10_Epoch.f
  rw [ref10_in]
  simp only [Option.bind_some]
  by_cases h : 1 ≤ a ∧ a ≤ 1073741824
  · rw [if_pos (by simpa using h), tmod16 a (by omega)]; exact congrArg some (decide_eq_decide.2 (by omega))
  · rw [if_neg (by simpa using h)]; exact congrArg some (decide_eq_false (by omega)).symm

theorem ref_next (n a : Int) (h0 : 0 ≤ n) (h1 : n < 8) (h2 : 0 ≤ a) (h3 : a ≤ 1073741824) :
    bellwetherref10_NextEpoch.f n a = some (if nx n a > 1073741824 then 0 else nx n a) := by
  unfold bellwetherref10_NextEpoch.f
  rw [tmod16 a h2]
  have e1 : wrap64 (wrap64 (a - a % 16) + n) = a - a % 16 + n := by unfold wrap64; omega
  rw [e1]
  unfold nx
  by_cases h : a - a % 16 + n ≤ a
  · have e2 : wrap64 (a - a % 16 + n + 16) = a - a % 16 + n + 16 := by unfold wrap64; omega
    rw [if_pos h, if_pos h, e2]
    split <;> rfl
  · rw [if_neg h, if_neg h]
    split <;> rfl

/-- The second half: what is told of the next epoch. -/
theorem half (k : Nat) (n a : Int) : ∃ x e, epoch_Next.f (k + 4) n a = some (x, e) ∧ bellwetherlaw14_EpochExact.j0 (k + 4) n a x e = some true := by
  by_cases h : 0 ≤ n ∧ n < 8 ∧ 0 ≤ a ∧ a ≤ 1073741824
  · obtain ⟨h0, h1, h2, h3⟩ := h
    rw [next_is (k + 3) n a h0 h1 h2 h3]
    have hn : 0 < nx n a := by unfold nx; split <;> omega
    by_cases hx : nx n a > 1073741824
    · refine ⟨0, 11, by rw [if_pos hx], ?_⟩
      simp only [bellwetherlaw14_EpochExact.j0]
      rw [ref_node]
      simp only [Option.bind_some]
      rw [if_pos (by simp; omega), if_neg (by omega)]
      simp only [bellwetherlaw14_EpochExact.j1]
      rw [if_neg (by simp; omega), ref_next n a h0 h1 h2 h3]
      simp [hx, wakes_ok]
    · refine ⟨nx n a, 0, by rw [if_neg hx], ?_⟩
      simp only [bellwetherlaw14_EpochExact.j0]
      rw [ref_node]
      simp only [Option.bind_some]
      rw [if_pos (by simp; omega), if_neg (by omega)]
      simp only [bellwetherlaw14_EpochExact.j1]
      rw [if_neg (by simp; omega), ref_next n a h0 h1 h2 h3]
      have : nx n a ≠ 0 := by omega
      simp [hx, this, wakes_ok]
  · rw [next_bad (k + 3) n a h]
    refine ⟨0, 1, rfl, ?_⟩
    have e : bellwetherlaw14_EpochExact.j1 (k + 3) n a 0 1 true = some true := by
      simp [bellwetherlaw14_EpochExact.j1, wakes_ok]
    simp only [bellwetherlaw14_EpochExact.j0]
    rw [ref_node]
    simp only [Option.bind_some]
    by_cases h0 : 0 ≤ n ∧ n < 8
    · rw [if_pos (by simp; omega)]
      by_cases h1 : a < 0
      · rw [if_pos h1]; exact e
      · rw [if_neg h1]
        have : (decide (a > 1073741824)) = true := by simp; omega
        rw [this]; exact e
    · rw [if_neg (by simp; omega)]; exact e

theorem EpochExact : bellwetherlaw14_EpochExact.Pure := by
  intro e n a _ _ _
  refine ⟨4, ?_⟩
  obtain ⟨x, f, h1, h2⟩ := half 0 n a
  unfold bellwetherlaw14_EpochExact.f
  rw [show (4 : Nat) = 0 + 4 from rfl, h1, ref_epoch]
  by_cases h : 1 ≤ e ∧ e ≤ 1073741824 ∧ e % 16 < 8
  · rw [who_yes e h.1 h.2.1 h.2.2, check_yes e h.1 h.2.1 h.2.2, tmod16 e (by omega)]
    simp only [Option.bind_some]
    rw [if_pos (by simpa using h)]
    simpa using h2
  · rw [who_no e h, check_no e h]
    simp only [Option.bind_some]
    rw [if_neg (by simpa using h)]
    simpa using h2

end Go.Proofs.Ytebfhfahkigdlaa.Pure
