/- What the functions under the law KeyExact answer, for all numbers. No condition. -/
import Derived.Test.YtebfhfahkigdlaaPKeyExactx1
namespace Go.Proofs.Ytebfhfahkigdlaa.KeyPlain
open Go.RowKit Go.Proofs.Ytebfhfahkigdlaa.PKeyExact Go.Proofs.YtebfhfahkigdlaaW.PrintWords Go.Proofs.YtebfhfahkigdlaaW.PrintLast Go.Proofs.YtebfhfahkigdlaaW.PrintMore

theorem umod (a : Int) (m : Int) (h0 : 0 < m) (h1 : m ≤ 4611686018427387904) :
    ∃ r, wrap64 (Int.tmod (IntKind.u64.wrap a) m) = r ∧ 0 ≤ r ∧ r < m := by
  refine ⟨_, rfl, ?_⟩
  have hw : 0 ≤ IntKind.u64.wrap a := by
    simp [IntKind.wrap, IntKind.signed, IntKind.bits]
    omega
  rw [Int.tmod_eq_emod_of_nonneg hw]
  have h2 := Int.emod_nonneg (IntKind.u64.wrap a) (show m ≠ 0 by omega)
  have h3 := Int.emod_lt_of_pos (IntKind.u64.wrap a) h0
  unfold wrap64
  omega

/-- Is a number a key? -/
def Key (a : Int) : Prop := 0 ≤ a ∧ a < 4611686018427387904

theorem key_is (a : Int) : key_is.f a = some (decide (0 ≤ a ∧ a < 4611686018427387904)) := by
  unfold key_is.f
  by_cases h : a ≥ 0
  · rw [if_pos h]; exact congrArg some (decide_eq_decide.2 (by omega))
  · rw [if_neg h]; exact congrArg some (decide_eq_false (by omega)).symm

theorem is_yes (a : Int) (h : Key a) : key_is.f a = some true := by
  rw [key_is]; exact congrArg some (decide_eq_true h)

theorem is_no (a : Int) (h : ¬ Key a) : key_is.f a = some false := by
  rw [key_is]; exact congrArg some (decide_eq_false h)

/-- How far a key stands behind another one. -/
def fr (k n : Int) : Int := if n - k < 0 then n - k + 4611686018427387904 else n - k

theorem fr_is (k n : Int) : (fr k n = n - k ∧ k ≤ n) ∨ (fr k n = n - k + 4611686018427387904 ∧ n < k) := by
  unfold fr; split <;> omega

theorem far (k n : Int) (hk : Key k) (hn : Key n) : key_Far.f k n = some (fr k n) := by
  unfold Key at hk hn
  unfold key_Far.f fr
  have e1 : wrap64 (n - k) = n - k := by unfold wrap64; omega
  rw [e1]
  by_cases h : n - k < 0
  · have e2 : wrap64 (n - k + 4611686018427387904) = n - k + 4611686018427387904 := by unfold wrap64; omega
    rw [if_pos h, if_pos h, e2]
  · rw [if_neg h, if_neg h]
theorem behind (k n : Int) (hk : Key k) (hn : Key n) : key_Behind.f k n = some (fr k n, 0) := by
  unfold key_Behind.f
  rw [is_yes k hk, is_yes n hn, far k n hk hn]
  simp

theorem behind_no (k n : Int) (h : ¬ (Key k ∧ Key n)) : key_Behind.f k n = some (0, 1) := by
  unfold key_Behind.f
  by_cases hk : Key k
  · rw [is_yes k hk, is_no n (fun hn => h ⟨hk, hn⟩)]; simp
  · rw [is_no k hk]; simp

theorem between (j : Nat) (a k b : Int) (ha : Key a) (hk : Key k) (hb : Key b) :
    key_Between.f (j + 1) a k b = some (decide (a = b ∨ (0 < fr a k ∧ fr a k ≤ fr a b))) := by
  unfold key_Between.f
  rw [is_yes a ha, is_yes k hk, is_yes b hb]
  simp only [Option.bind_some, if_true, Bool.not_true, key_Between.j0]
  rw [if_neg (by decide), far a k ha hk, far a b ha hb]
  simp only [Option.bind_some]
  by_cases h : a = b
  · rw [if_pos h]; exact congrArg some (decide_eq_true (Or.inl h)).symm
  · rw [if_neg h]
    by_cases h1 : fr a k > 0
    · rw [if_pos h1]; exact congrArg some (decide_eq_decide.2 (by omega))
    · rw [if_neg h1]; exact congrArg some (decide_eq_false (by omega)).symm

theorem between_no (j : Nat) (a k b : Int) (h : ¬ (Key a ∧ Key k ∧ Key b)) : key_Between.f (j + 1) a k b = some false := by
  unfold key_Between.f
  by_cases ha : Key a
  · by_cases hk : Key k
    · rw [is_yes a ha, is_yes k hk, is_no b (fun hb => h ⟨ha, hk, hb⟩)]; simp [key_Between.j0]
    · rw [is_yes a ha, is_no k hk]; simp [key_Between.j0]
  · rw [is_no a ha]; simp [key_Between.j0]

theorem pow_is (n : Int) (h0 : 0 ≤ n) (h1 : n ≤ 61) : ∃ p : Int, shl .i64 1 n = p ∧ 1 ≤ p ∧ p ≤ 2305843009213693952 ∧ p = 2 ^ n.toNat := by
  have h2 : (2 : Nat) ^ n.toNat ≤ 2 ^ 61 := Nat.pow_le_pow_right (by omega) (by omega)
  have h3 : 0 < (2 : Nat) ^ n.toNat := Nat.pow_pos (by omega)
  have h4 : ((2 : Nat) ^ n.toNat : Int) = (((2 : Nat) ^ n.toNat : Nat) : Int) := by simp
  refine ⟨2 ^ n.toNat, ?_, ?_, ?_, rfl⟩
  · unfold shl
    rw [IntWalk.i64_left, show min n.toNat IntKind.i64.bits = n.toNat from Nat.min_eq_left (show n.toNat ≤ 64 by omega)]
    unfold wrap64
    have h5 : (2 : Int) ^ n.toNat = (((2 : Nat) ^ n.toNat : Nat) : Int) := by simp
    rw [h5]
    omega
  · have h5 : (2 : Int) ^ n.toNat = (((2 : Nat) ^ n.toNat : Nat) : Int) := by simp
    rw [h5]; omega
  · have h5 : (2 : Int) ^ n.toNat = (((2 : Nat) ^ n.toNat : Nat) : Int) := by simp
    rw [h5]; omega

theorem back (k n p : Int) (hk : Key k) (h0 : 0 ≤ n) (h1 : n ≤ 61) (hp : shl .i64 1 n = p) (hp0 : Key p) : key_Back.f k n = some (fr p k, 0) := by
  unfold key_Back.f
  rw [is_yes k hk]
  simp only [Option.bind_some, if_true]
  rw [if_neg (by omega), if_neg (by omega), if_pos h0, hp, far p k hp0 hk]
  rfl

theorem back_no (k n : Int) (h : ¬ (Key k ∧ 0 ≤ n ∧ n ≤ 61)) : key_Back.f k n = some (0, 1) := by
  unfold key_Back.f
  by_cases hk : Key k
  · rw [is_yes k hk]
    simp only [Option.bind_some, if_true]
    by_cases h0 : n < 0
    · rw [if_pos h0]
    · have h1 : n > 61 := by
        refine Int.not_le.1 (fun h1 => h ⟨hk, by omega, h1⟩)
      rw [if_neg h0, if_pos h1]
  · rw [is_no k hk]; simp

theorem check_yes (a : Int) (h : Key a) : key_Check.f a = some 0 := by
  unfold key_Check.f
  rw [is_yes a h]; simp

theorem check_no (a : Int) (h : ¬ Key a) : key_Check.f a = some 1 := by
  unfold key_Check.f
  rw [is_no a h]; simp

theorem wakes_ok (k : Nat) : bellwetherlaw02_wakes.f (k + 1) = some true := by
  unfold bellwetherlaw02_wakes.f
  rw [behind 5 3 (by unfold Key; omega) (by unfold Key; omega), back 0 0 1 (by unfold Key; omega) (by omega) (by omega) (by decide) (by unfold Key; omega),
    between k 1 2 3 (by unfold Key; omega) (by unfold Key; omega) (by unfold Key; omega), between k 1 1 3 (by unfold Key; omega) (by unfold Key; omega) (by unfold Key; omega),
    check_no _ (by unfold Key; omega)]
  decide


theorem ref_in (a b c : Int) : bellwetherref01_In.f a b c = some (decide (b ≤ a ∧ a ≤ c)) := by
  unfold bellwetherref01_In.f
  by_cases h : a ≥ b
  · rw [if_pos h]; exact congrArg some (decide_eq_decide.2 (by omega))
  · rw [if_neg h]; exact congrArg some (decide_eq_false (by omega)).symm

theorem ref_key (a : Int) : bellwetherref01_Key.f a = some (decide (0 ≤ a ∧ a < 4611686018427387904)) := by
  unfold bellwetherref01_Key.f
  rw [ref_in]; exact congrArg some (decide_eq_decide.2 (by omega))

theorem ref_yes (a : Int) (h : Key a) : bellwetherref01_Key.f a = some true := by
  rw [ref_key]; exact congrArg some (decide_eq_true h)

theorem ref_no (a : Int) (h : ¬ Key a) : bellwetherref01_Key.f a = some false := by
  rw [ref_key]; exact congrArg some (decide_eq_false h)

theorem ref_behind (k n : Int) (hk : Key k) (hn : Key n) : bellwetherref01_Behind.f k n = some (fr k n) := by
  unfold Key at hk hn
  unfold bellwetherref01_Behind.f fr
  by_cases h : n - k < 0
  · have e1 : wrap64 (k - n) = k - n := by unfold wrap64; omega
    have e2 : wrap64 (4611686018427387904 - (k - n)) = n - k + 4611686018427387904 := by unfold wrap64; omega
    rw [if_neg (by omega), if_pos h, e1, e2]
  · have e1 : wrap64 (n - k) = n - k := by unfold wrap64; omega
    rw [if_pos (by omega), if_neg h, e1]

theorem ref_between (j : Nat) (a k b : Int) : bellwetherref01_Between.f (j + 1) a k b = key_Between.f (j + 1) a k b := by
  by_cases h : Key a ∧ Key k ∧ Key b
  · obtain ⟨ha, hk, hb⟩ := h
    rw [between j a k b ha hk hb]
    unfold bellwetherref01_Between.f
    rw [ref_yes a ha, ref_yes k hk, ref_yes b hb]
    simp only [Option.bind_some, if_true, Bool.not_true, bellwetherref01_Between.j0]
    have h1 := fr_is a k
    have h2 := fr_is a b
    rw [ref_behind a k ha hk, ref_behind a b ha hb]
    unfold Key at *
    rw [if_neg (by decide)]
    by_cases c1 : a = b
    · rw [if_pos c1]; exact congrArg some (decide_eq_true (Or.inl c1)).symm
    rw [if_neg c1]
    by_cases c2 : k = a
    · rw [if_pos c2]; exact congrArg some (decide_eq_false (by omega)).symm
    rw [if_neg c2]
    exact congrArg some (decide_eq_decide.2 (by omega))
  · rw [between_no j a k b h]
    unfold bellwetherref01_Between.f
    by_cases ha : Key a
    · by_cases hk : Key k
      · rw [ref_yes a ha, ref_yes k hk, ref_no b (fun hb => h ⟨ha, hk, hb⟩)]; simp [bellwetherref01_Between.j0]
      · rw [ref_yes a ha, ref_no k hk]; simp [bellwetherref01_Between.j0]
    · rw [ref_no a ha]; simp [bellwetherref01_Between.j0]

theorem between_some (a k b : Int) : ∃ t, key_Between.f 1 a k b = some t ∧ bellwetherref01_Between.f 1 a k b = some t := by
  by_cases h : Key a ∧ Key k ∧ Key b
  · exact ⟨_, between 0 a k b h.1 h.2.1 h.2.2, (ref_between 0 a k b).trans (between 0 a k b h.1 h.2.1 h.2.2)⟩
  · exact ⟨_, between_no 0 a k b h, (ref_between 0 a k b).trans (between_no 0 a k b h)⟩

/-- The first half: what the law needs to know of a and b. -/
structure First (a b : Int) (n e : Int) (ka kb : Bool) (c : Int) : Prop where
  behind : key_Behind.f a b = some (n, e)
  keyA : bellwetherref01_Key.f a = some ka
  keyB : bellwetherref01_Key.f b = some kb
  check : key_Check.f a = some c
  cases : (ka = true ∧ kb = true ∧ c = 0 ∧ e = 0 ∧ bellwetherref01_Behind.f a b = some n) ∨ (ka = true ∧ kb = false ∧ c = 0 ∧ e = 1 ∧ n = 0) ∨ (ka = false ∧ c = 1 ∧ e = 1 ∧ n = 0)

theorem first_is (a b : Int) : ∃ n e ka kb c, First a b n e ka kb c := by
  by_cases ha : Key a
  · by_cases hb : Key b
    · exact ⟨_, _, _, _, _, behind a b ha hb, ref_yes a ha, ref_yes b hb, check_yes a ha, .inl ⟨rfl, rfl, rfl, rfl, ref_behind a b ha hb⟩⟩
    · exact ⟨_, _, _, _, _, behind_no a b (fun h => hb h.2), ref_yes a ha, ref_no b hb, check_yes a ha, .inr (.inl ⟨rfl, rfl, rfl, rfl, rfl⟩)⟩
  · exact ⟨_, _, _, _, _, behind_no a b (fun h => ha h.1), ref_no a ha, ref_key b, check_no a ha, .inr (.inr ⟨rfl, rfl, rfl, rfl⟩)⟩

/-- The second half: of k and bits. -/
structure Second (k n : Int) (x f : Int) (kk : Bool) : Prop where
  back : key_Back.f k n = some (x, f)
  keyK : bellwetherref01_Key.f k = some kk
  cases : (kk = true ∧ 0 ≤ n ∧ n ≤ 61 ∧ f = 0 ∧ ∃ p, shl .i64 1 n = p ∧ bellwetherref01_Behind.f p k = some x) ∨ (kk = true ∧ (n < 0 ∨ 61 < n) ∧ f = 1 ∧ x = 0) ∨ (kk = false ∧ f = 1 ∧ x = 0)

theorem second_is (k n : Int) : ∃ x f kk, Second k n x f kk := by
  by_cases hk : Key k
  · by_cases hn : 0 ≤ n ∧ n ≤ 61
    · obtain ⟨p, ep, hp0, hp1, _⟩ := pow_is n hn.1 hn.2
      have hp : Key p := by unfold Key; omega
      exact ⟨_, _, _, KeyPlain.back k n p hk hn.1 hn.2 ep hp, ref_yes k hk, .inl ⟨rfl, hn.1, hn.2, rfl, p, ep, ref_behind p k hp hk⟩⟩
    · exact ⟨_, _, _, back_no k n (fun h => hn h.2), ref_yes k hk, .inr (.inl ⟨rfl, by omega, rfl, rfl⟩)⟩
  · exact ⟨_, _, _, back_no k n (fun h => hk h.1), ref_no k hk, .inr (.inr ⟨rfl, rfl, rfl⟩)⟩

end Go.Proofs.Ytebfhfahkigdlaa.KeyPlain
