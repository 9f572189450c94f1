/- bellwetherref01.roots, its printed function: by less alone, prime by prime. No condition beside the numbers' bounds that each states. -/
import Derived.Test.YteeibpeefhaoiaaRefC
import Derived.Test.YteeibpeefhaoiaaShaD
namespace Go.Proofs.Yteeibpeefhaoiaa
open Go.RowKit Go.Proofs.YteeibpeefhaoiaaW.PrintWords
set_option linter.unusedVariables false

/-- A root, bit by bit. -/
def gB (p pw : Int) : Nat → Int → Option Int
  | 0, r => some r
  | b + 1, r => match PShaExact.bellwetherref01_less.f 200 (IntKind.u64.wrap (r + shl .u64 1 (b : Int))) p pw with
    | some true => gB p pw b (IntKind.u64.wrap (r + shl .u64 1 (b : Int)))
    | some false => gB p pw b r
    | none => none
def primes : List Nat := [2, 3, 5, 7, 11, 13, 17, 19, 23, 29, 31, 37, 41, 43, 47, 53, 59, 61, 67, 71, 73, 79, 83, 89, 97, 101, 103, 107, 109, 113, 127, 131, 137, 139, 149, 151, 157, 163, 167, 173, 179, 181, 191, 193, 197, 199, 211, 223, 227, 229, 233, 239, 241, 251, 257, 263, 269, 271, 277, 281, 283, 293, 307, 311]
def rts3 : List Int := [5411319704, 6194414737, 7344290767, 8215976869, 9551921755, 10098905585, 11043570340, 11460697813, 12214315672, 13195500289, 13492127166, 14311783875, 14809980276, 15046980094, 15499789991, 16133124468, 16720292289, 16907126662, 17444216262, 17784676812, 17950125167, 18429019306, 18734950876, 19175934170, 19734090066, 20001703533, 20132865992, 20390182855, 20516441075, 20764397895, 21588763473, 21813078375, 22141143685, 22248366392, 22769593852, 22871018771, 23170020180, 23461497531, 23651862830, 23931792517, 24205322401, 24295138891, 24734567280, 24820601251, 24990902297, 25075189284, 25569408389, 26045227120, 26200031510, 26276752392, 26428864332, 26653801653, 26727943347, 27092625994, 27306805839, 27517677555, 27725365998, 27793908591, 27997534228, 28131656200, 28198240250, 28526537963, 28973835255, 29099129074]
def rts2 : List Int := [6074000999, 7439101573, 9603838834, 11363415354, 14244795007, 15485724812, 17708603819, 18721328409]
/-- Does no number from x on divide p? -/
def pb (p : Int) : Int → Nat → Bool
  | _, 0 => true
  | x, d + 1 => (Int.tmod p x != 0) && pb p (x + 1) d

theorem less_at {r p pw : Int} {t : Bool} (h : PShaExact.bellwetherref01_less.f 200 r p pw = some t) : ∀ d, PShaExact.bellwetherref01_less.f (200 + d) r p pw = some t
  | 0 => h
  | d + 1 => PShaExact.bellwetherref01_less.mono _ _ _ _ _ (less_at h d)

theorem roots_l2 (n pw p : Int) : ∀ (b : Nat) (r r' : Int), b ≤ 36 → gB p pw b r = some r' → ∀ (k : Nat) (xs : List Int), 200 ≤ k → xs.length < 35184372088832 →
    PShaExact.bellwetherref01_roots.l2 (k + b + 1) n pw xs p r ((b : Int) - 1) = PShaExact.bellwetherref01_roots.l0 k n pw (xs ++ [r' % 4294967296]) (wrap64 (p + 1)) := by
  intro b
  induction b with
  | zero =>
    intro r r' hb h k xs hk hx
    simp only [gB, Option.some.injEq] at h
    subst h
    unfold PShaExact.bellwetherref01_roots.l2
    rw [if_neg (by omega), if_pos hx]
  | succ b ih =>
    intro r r' hb h k xs hk hx
    obtain ⟨d, hd⟩ : ∃ d, k + (b + 1) = 200 + d := ⟨k + b + 1 - 200, by omega⟩
    unfold PShaExact.bellwetherref01_roots.l2
    rw [show (((b + 1 : Nat) : Int) - 1) = (b : Int) by omega, if_pos (by omega), if_pos (by omega), hd]
    have hw : wrap64 ((b : Int) - 1) = (b : Int) - 1 := by unfold wrap64; omega
    rw [hw]
    unfold gB at h
    cases hl : PShaExact.bellwetherref01_less.f 200 (IntKind.u64.wrap (r + shl .u64 1 (b : Int))) p pw with
    | none => rw [hl] at h; simp at h
    | some t =>
      rw [hl] at h
      rw [less_at hl d, Option.bind_some, ← hd]
      cases t with
      | true =>
        rw [if_pos rfl]
        exact ih _ _ (by omega) h k xs hk hx
      | false =>
        rw [if_neg (by simp)]
        exact ih _ _ (by omega) h k xs hk hx

theorem roots_l1 (n pw p : Int) (xs : List Int) (k : Nat) (hp : p ≤ 1000) : ∀ (d : Nat) (b : Bool) (x : Int), 2 ≤ x → x + d = p →
    PShaExact.bellwetherref01_roots.l1 (k + d + 1) n pw xs p b x = if (b && pb p x d) = true then PShaExact.bellwetherref01_roots.l2 k n pw xs p 0 35 else PShaExact.bellwetherref01_roots.l0 k n pw xs (wrap64 (p + 1)) := by
  intro d
  induction d with
  | zero =>
    intro b x hx he
    unfold PShaExact.bellwetherref01_roots.l1
    rw [if_neg (by omega)]
    simp only [pb, Bool.and_true]
  | succ d ih =>
    intro b x hx he
    have hw : wrap64 (x + 1) = x + 1 := by unfold wrap64; omega
    unfold PShaExact.bellwetherref01_roots.l1
    rw [if_pos (by omega), hw]
    have e : k + (d + 1) = k + d + 1 := rfl
    rw [e]
    cases b with
    | true =>
      rw [if_pos rfl, if_neg (by omega), ih _ (x + 1) (by omega) (by omega)]
      simp only [pb, Bool.true_and]
    | false =>
      rw [if_neg (by simp), ih _ (x + 1) (by omega) (by omega)]
      simp only [Bool.false_and]

/-- The roots' list is reached. -/
def Ends (n pw : Int) (xs : List Int) (p : Int) (ys : List Int) : Prop := ∃ K, PShaExact.bellwetherref01_roots.l0 K n pw xs p = some ys
theorem Ends.late {n pw : Int} {xs ys : List Int} {p : Int} (h : Ends n pw xs p ys) : ∃ K, 200 ≤ K ∧ PShaExact.bellwetherref01_roots.l0 K n pw xs p = some ys := by
  obtain ⟨K, h⟩ := h
  have : ∀ d, PShaExact.bellwetherref01_roots.l0 (K + d) n pw xs p = some ys := by
    intro d
    induction d with
    | zero => exact h
    | succ d ih => exact (PShaExact.bellwetherref01_roots.mono_l (K + d)).1 _ _ _ _ _ ih
  exact ⟨K + 200, by omega, this 200⟩
theorem Ends.stop {n pw : Int} {xs : List Int} {p : Int} (h : ¬ (xs.length : Int) < n) : Ends n pw xs p xs := ⟨1, by unfold PShaExact.bellwetherref01_roots.l0; rw [if_neg h]⟩
theorem Ends.prime {n pw p R : Int} {xs ys : List Int} (hn : (xs.length : Int) < n) (hx : xs.length < 1000) (h2 : 2 ≤ p) (hp : p ≤ 1000) (hb : pb p 2 (p - 2).toNat = true) (hg : gB p pw 36 0 = some R) (h : Ends n pw (xs ++ [R % 4294967296]) (p + 1) ys) : Ends n pw xs p ys := by
  obtain ⟨K, hK, h⟩ := h.late
  refine ⟨K + 36 + 1 + (p - 2).toNat + 1 + 1, ?_⟩
  have h1 := roots_l1 n pw p xs (K + 36 + 1) hp (p - 2).toNat true 2 (by omega) (by omega)
  have h3 := roots_l2 n pw p 36 0 R (by omega) hg K xs hK (by omega)
  unfold PShaExact.bellwetherref01_roots.l0
  rw [if_pos hn, h1, hb, if_pos (show (true && true) = true from rfl)]
  have e : (((36 : Nat) : Int) - 1) = 35 := by decide
  rw [e] at h3
  rw [h3, show wrap64 (p + 1) = p + 1 by unfold wrap64; omega]
  exact h
theorem Ends.comp {n pw p : Int} {xs ys : List Int} (hn : (xs.length : Int) < n) (h2 : 2 ≤ p) (hp : p ≤ 1000) (hb : pb p 2 (p - 2).toNat = false) (h : Ends n pw xs (p + 1) ys) : Ends n pw xs p ys := by
  obtain ⟨K, h⟩ := h
  refine ⟨K + (p - 2).toNat + 1 + 1, ?_⟩
  have h1 := roots_l1 n pw p xs K hp (p - 2).toNat true 2 (by omega) (by omega)
  unfold PShaExact.bellwetherref01_roots.l0
  rw [if_pos hn, h1, hb, if_neg (show ¬ (true && false) = true by decide), show wrap64 (p + 1) = p + 1 by unfold wrap64; omega]
  exact h

/-- How many primes are less. -/
def cnt : Nat → Nat
  | 0 => 0
  | p + 1 => cnt p + (if 2 ≤ p ∧ pb (p : Int) 2 (p - 2) = true then 1 else 0)

theorem ends_all (n pw : Int) (rts tab : List Int) (top : Nat) (htop : top ≤ 1000) (hl : tab.length ≤ 64) (hln : (tab.length : Int) = n) (hcnt : cnt top = tab.length)
    (hstep : ∀ p, p < top → 2 ≤ p → cnt p < tab.length ∧ (pb (p : Int) 2 (p - 2) = true → gB p pw 36 0 = some (rts.getD (cnt p) 0) ∧ tab.take (cnt p) ++ [rts.getD (cnt p) 0 % 4294967296] = tab.take (cnt p + 1))) :
    ∀ m p : Nat, p + m = top → 2 ≤ p → Ends n pw (tab.take (cnt p)) p tab := by
  intro m
  induction m with
  | zero =>
    intro p hp h2
    obtain rfl : p = top := by omega
    rw [hcnt, List.take_of_length_le (Nat.le_refl _)]
    exact Ends.stop (by omega)
  | succ m ih =>
    intro p hp h2
    have hn := ih (p + 1) (by omega) (by omega)
    obtain ⟨hc, hs⟩ := hstep p (by omega) h2
    have hlen : (tab.take (cnt p)).length = cnt p := by rw [List.length_take]; omega
    have hn' : (((tab.take (cnt p)).length : Nat) : Int) < n := by rw [hlen]; omega
    have e2 : ((p : Int) - 2).toNat = p - 2 := by omega
    cases hb : pb (p : Int) 2 (p - 2) with
    | true =>
      obtain ⟨hg, ht⟩ := hs hb
      refine Ends.prime hn' (by omega) (by omega) (by omega) (by rw [e2]; exact hb) hg ?_
      rw [ht]
      have hcs : cnt (p + 1) = cnt p + 1 := by simp only [cnt, hb]; rw [if_pos ⟨h2, trivial⟩]
      rw [hcs] at hn
      exact hn
    | false =>
      refine Ends.comp hn' (by omega) (by omega) (by rw [e2]; exact hb) ?_
      have hcs : cnt (p + 1) = cnt p := by simp only [cnt, hb]; rw [if_neg (by simp)]; rfl
      rw [hcs] at hn
      exact hn

end Go.Proofs.Yteeibpeefhaoiaa
