/- For all numbers the law KeyRound's printed function answers true. No condition beside the numbers' kinds. -/
import Derived.Test.YtebfhfahkigdlaaPKeyRoundx2
namespace Go.Proofs.Ytebfhfahkigdlaa.Pure
open Go.RowKit Go.Proofs.Ytebfhfahkigdlaa.PKeyRound Go.Proofs.YtebfhfahkigdlaaW.PrintWords Go.Proofs.YtebfhfahkigdlaaW.PrintLast

theorem umod (a : Int) (m : Int) (h0 : 0 < m) (h1 : m ≤ 4611686018427387904) :
    ∃ r, wrap64 (Int.tmod (IntKind.u64.wrap a) m) = r ∧ 0 ≤ r ∧ r < m := by
  refine ⟨_, rfl, ?_⟩
  have hw : 0 ≤ IntKind.u64.wrap a := by
    simp [IntKind.wrap, IntKind.signed, IntKind.bits]
    omega
  rw [Int.tmod_eq_emod_of_nonneg hw]
  have h2 := Int.emod_nonneg (IntKind.u64.wrap a) (show m ≠ 0 by omega)
  have h3 := Int.emod_lt_of_pos (IntKind.u64.wrap a) h0
  unfold wrap64
  omega

/-- Is a number a key? -/
def Key (a : Int) : Prop := 0 ≤ a ∧ a < 4611686018427387904

theorem key_is (a : Int) : key_is.f a = some (decide (0 ≤ a ∧ a < 4611686018427387904)) := by
  unfold key_is.f
  by_cases h : a ≥ 0
  · rw [if_pos h]; exact congrArg some (decide_eq_decide.2 (by omega))
  · rw [if_neg h]; exact congrArg some (decide_eq_false (by omega)).symm

theorem is_yes (a : Int) (h : Key a) : key_is.f a = some true := by
  rw [key_is]; exact congrArg some (decide_eq_true h)

theorem is_no (a : Int) (h : ¬ Key a) : key_is.f a = some false := by
  rw [key_is]; exact congrArg some (decide_eq_false h)

/-- How far a key stands behind another one. -/
def fr (k n : Int) : Int := if n - k < 0 then n - k + 4611686018427387904 else n - k

theorem fr_is (k n : Int) : (fr k n = n - k ∧ k ≤ n) ∨ (fr k n = n - k + 4611686018427387904 ∧ n < k) := by
  unfold fr; split <;> omega

theorem far (k n : Int) (hk : Key k) (hn : Key n) : key_Far.f k n = some (fr k n) := by
  unfold Key at hk hn
  unfold key_Far.f fr
  have e1 : wrap64 (n - k) = n - k := by unfold wrap64; omega
  rw [e1]
  by_cases h : n - k < 0
  · have e2 : wrap64 (n - k + 4611686018427387904) = n - k + 4611686018427387904 := by unfold wrap64; omega
    rw [if_pos h, if_pos h, e2]
  · rw [if_neg h, if_neg h]
theorem behind (k n : Int) (hk : Key k) (hn : Key n) : key_Behind.f k n = some (fr k n, 0) := by
  unfold key_Behind.f
  rw [is_yes k hk, is_yes n hn, far k n hk hn]
  simp

theorem behind_no (k n : Int) (h : ¬ (Key k ∧ Key n)) : key_Behind.f k n = some (0, 1) := by
  unfold key_Behind.f
  by_cases hk : Key k
  · rw [is_yes k hk, is_no n (fun hn => h ⟨hk, hn⟩)]; simp
  · rw [is_no k hk]; simp

theorem between (j : Nat) (a k b : Int) (ha : Key a) (hk : Key k) (hb : Key b) :
    key_Between.f (j + 1) a k b = some (decide (a = b ∨ (0 < fr a k ∧ fr a k ≤ fr a b))) := by
  unfold key_Between.f
  rw [is_yes a ha, is_yes k hk, is_yes b hb]
  simp only [Option.bind_some, if_true, Bool.not_true, key_Between.j0]
  rw [if_neg (by decide), far a k ha hk, far a b ha hb]
  simp only [Option.bind_some]
  by_cases h : a = b
  · rw [if_pos h]; exact congrArg some (decide_eq_true (Or.inl h)).symm
  · rw [if_neg h]
    by_cases h1 : fr a k > 0
    · rw [if_pos h1]; exact congrArg some (decide_eq_decide.2 (by omega))
    · rw [if_neg h1]; exact congrArg some (decide_eq_false (by omega)).symm

theorem between_no (j : Nat) (a k b : Int) (h : ¬ (Key a ∧ Key k ∧ Key b)) : key_Between.f (j + 1) a k b = some false := by
  unfold key_Between.f
  by_cases ha : Key a
  · by_cases hk : Key k
    · rw [is_yes a ha, is_yes k hk, is_no b (fun hb => h ⟨ha, hk, hb⟩)]; simp [key_Between.j0]
    · rw [is_yes a ha, is_no k hk]; simp [key_Between.j0]
  · rw [is_no a ha]; simp [key_Between.j0]

theorem pow_is (n : Int) (h0 : 0 ≤ n) (h1 : n ≤ 61) : ∃ p : Int, shl .i64 1 n = p ∧ 1 ≤ p ∧ p ≤ 2305843009213693952 ∧ p = 2 ^ n.toNat := by
  have h2 : (2 : Nat) ^ n.toNat ≤ 2 ^ 61 := Nat.pow_le_pow_right (by omega) (by omega)
  have h3 : 0 < (2 : Nat) ^ n.toNat := Nat.pow_pos (by omega)
  have h4 : ((2 : Nat) ^ n.toNat : Int) = (((2 : Nat) ^ n.toNat : Nat) : Int) := by simp
  refine ⟨2 ^ n.toNat, ?_, ?_, ?_, rfl⟩
  · unfold shl
    rw [IntWalk.i64_left, show min n.toNat IntKind.i64.bits = n.toNat from Nat.min_eq_left (show n.toNat ≤ 64 by omega)]
    unfold wrap64
    have h5 : (2 : Int) ^ n.toNat = (((2 : Nat) ^ n.toNat : Nat) : Int) := by simp
    rw [h5]
    omega
  · have h5 : (2 : Int) ^ n.toNat = (((2 : Nat) ^ n.toNat : Nat) : Int) := by simp
    rw [h5]; omega
  · have h5 : (2 : Int) ^ n.toNat = (((2 : Nat) ^ n.toNat : Nat) : Int) := by simp
    rw [h5]; omega

theorem back (k n p : Int) (hk : Key k) (h0 : 0 ≤ n) (h1 : n ≤ 61) (hp : shl .i64 1 n = p) (hp0 : Key p) : key_Back.f k n = some (fr p k, 0) := by
  unfold key_Back.f
  rw [is_yes k hk]
  simp only [Option.bind_some, if_true]
  rw [if_neg (by omega), if_neg (by omega), if_pos h0, hp, far p k hp0 hk]
  rfl

theorem back_no (k n : Int) (h : ¬ (Key k ∧ 0 ≤ n ∧ n ≤ 61)) : key_Back.f k n = some (0, 1) := by
  unfold key_Back.f
  by_cases hk : Key k
  · rw [is_yes k hk]
    simp only [Option.bind_some, if_true]
    by_cases h0 : n < 0
    · rw [if_pos h0]
    · have h1 : n > 61 := by
        refine Int.not_le.1 (fun h1 => h ⟨hk, by omega, h1⟩)
      rw [if_neg h0, if_pos h1]
  · rw [is_no k hk]; simp

theorem check_yes (a : Int) (h : Key a) : key_Check.f a = some 0 := by
  unfold key_Check.f
  rw [is_yes a h]; simp

theorem check_no (a : Int) (h : ¬ Key a) : key_Check.f a = some 1 := by
  unfold key_Check.f
  rw [is_no a h]; simp

theorem wakes_ok (k : Nat) : bellwetherlaw02_wakes.f (k + 1) = some true := by
  unfold bellwetherlaw02_wakes.f
  rw [behind 5 3 (by unfold Key; omega) (by unfold Key; omega), back 0 0 1 (by unfold Key; omega) (by omega) (by omega) (by decide) (by unfold Key; omega),
    between k 1 2 3 (by unfold Key; omega) (by unfold Key; omega) (by unfold Key; omega), between k 1 1 3 (by unfold Key; omega) (by unfold Key; omega) (by unfold Key; omega),
    check_no _ (by unfold Key; omega)]
  decide

theorem some_key (a : Int) : ∃ r, bellwetherlaw02_Some.f a = some r ∧ Key r := by
  obtain ⟨r, h0, h1⟩ := umod a 4611686018427387904 (by omega) (by omega)
  exact ⟨r, by unfold bellwetherlaw02_Some.f; rw [h0], h1⟩

theorem KeyRound : bellwetherlaw02_KeyRound.Pure := by
  intro a0 a1 a2 _ _ _
  refine ⟨4, ?_⟩
  obtain ⟨a, ea, ha⟩ := some_key a0
  obtain ⟨b, eb, hb⟩ := some_key a1
  obtain ⟨c, ec, hc⟩ := some_key a2
  unfold bellwetherlaw02_KeyRound.f
  rw [ea, eb, ec]
  simp only [Option.bind_some]
  rw [behind a b ha hb, behind b a hb ha, behind b c hb hc, behind c a hc ha]
  have hx := fr_is a b
  have hy := fr_is b a
  have hz := fr_is b c
  have hw := fr_is c a
  have ht := fr_is a c
  have hbt := between 2 a b c ha hb hc
  have hwk : bellwetherlaw02_wakes.f 3 = some true := wakes_ok 2
  unfold Key at ha hb hc
  generalize fr a b = x at *
  generalize fr b a = y at *
  generalize fr b c = z at *
  generalize fr c a = w at *
  generalize fr a c = t at *
  simp only [Option.bind_some, if_true]
  rw [if_neg (by omega), if_neg (by omega), if_neg (by omega), if_neg (by omega), if_neg (by omega), if_neg (by omega)]
  rw [show decide (w ≥ 4611686018427387904) = false from decide_eq_false (by omega)]
  simp only [bellwetherlaw02_KeyRound.j0]
  rw [if_neg (by decide), hwk, hbt]
  simp only [Option.bind_some]
  by_cases h : a = b
  · rw [if_pos h, if_pos (by omega), if_pos (by omega)]
  rw [if_neg h]
  have e1 : wrap64 (4611686018427387904 - y) = 4611686018427387904 - y := by unfold wrap64; omega
  have e2 : wrap64 (4611686018427387904 - x) = 4611686018427387904 - x := by unfold wrap64; omega
  have e3 : wrap64 (4611686018427387904 - x - z) = 4611686018427387904 - x - z := by unfold wrap64; omega
  have e4 : wrap64 (z - (4611686018427387904 - x)) = z - (4611686018427387904 - x) := by unfold wrap64; omega
  have e5 : wrap64 (4611686018427387904 - (z - (4611686018427387904 - x))) = 4611686018427387904 - (z - (4611686018427387904 - x)) := by unfold wrap64; omega
  rw [e1, if_pos (by omega), e2, e3, e4, e5]
  by_cases h1 : z < 4611686018427387904 - x
  · rw [if_pos h1, if_pos (by omega), if_pos (by simp; omega)]
  · rw [if_neg h1]
    by_cases h2 : z = 4611686018427387904 - x
    · rw [if_pos h2, if_pos (by omega)]
    · rw [if_neg h2, if_pos (by omega), if_pos (by omega)]

end Go.Proofs.Ytebfhfahkigdlaa.Pure
