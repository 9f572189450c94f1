/- What the document's own functions on nodes, topics and keys answer, and package key's, for all numbers and all lists. No condition beside the numbers' bounds that each states. -/
import Derived.Test.YteeibpeefhaoiaaRingB
namespace Go.Proofs.Yteeibpeefhaoiaa
open Go.RowKit
set_option linter.unusedVariables false

def ioB (n lo hi : Int) : Bool := decide (lo ≤ n) && decide (n ≤ hi)
theorem rin_ (n lo hi : Int) (w : World) : Calls Try.prog 42 #[.int .i64 n, .int .i64 lo, .int .i64 hi] w (Ret (.bool (ioB n lo hi)) w) := by
  by_cases h0 : lo ≤ n
  · have e : ioB n lo hi = decide (n ≤ hi) := by simp [ioB, h0]
    rw [e]
    have h1 : decide (lo ≤ n) = true := decide_eq_true h0
    clear e h0
    go_enter Try.func42, Try.ntmps42
    go_wp2
    all_goals (go_ret; exact ⟨by first | rfl | simp [*], Up.refl _⟩)
  · have e : ioB n lo hi = false := by simp [ioB, h0]
    rw [e]
    have h1 : decide (lo ≤ n) = false := decide_eq_false h0
    clear e h0
    go_enter Try.func42, Try.ntmps42
    go_wp2
    all_goals (go_ret; exact ⟨by first | rfl | simp [*], Up.refl _⟩)

theorem io_in (n m : Int) : ioB n 0 (m - 1) = inB n m := by
  unfold ioB inB
  rw [show decide (n ≤ m - 1) = decide (n < m) from decide_eq_decide.2 (by omega)]

theorem rnode (n : Int) (w : World) : Calls Try.prog 18 #[.int .i64 n] w (Ret (.bool (inB n 8)) w) := by
  go_enter Try.func18, Try.ntmps18
  go_wp2_with fail
  refine (rin_ _ _ _ _).mono ?_
  rintro e w1 ⟨rfl, h1⟩
  rw [show ioB n 0 7 = inB n 8 from io_in n 8]
  go_wp2
  go_ret
  exact ⟨rfl, h1⟩

theorem rtopic (n : Int) (w : World) : Calls Try.prog 20 #[.int .i64 n] w (Ret (.bool (inB n 4)) w) := by
  go_enter Try.func20, Try.ntmps20
  go_wp2_with fail
  refine (rin_ _ _ _ _).mono ?_
  rintro e w1 ⟨rfl, h1⟩
  rw [show ioB n 0 3 = inB n 4 from io_in n 4]
  go_wp2
  go_ret
  exact ⟨rfl, h1⟩

theorem rnk_ (n : Int) (w : World) (h : 0 ≤ n ∧ n < 8) : Calls Try.prog 19 #[.int .i64 n] w (Ret (.int .i64 (nk n)) w) := by
  rcases eight h with rfl | rfl | rfl | rfl | rfl | rfl | rfl | rfl
  all_goals
    clear h
    go_enter Try.func19, Try.ntmps19
    go_wp2
    go_ret
    exact ⟨rfl, Up.alloc _ _⟩

theorem rtk_ (n : Int) (w : World) (h : 0 ≤ n ∧ n < 4) : Calls Try.prog 22 #[.int .i64 n] w (Ret (.int .i64 (tk n)) w) := by
  rcases four h with rfl | rfl | rfl | rfl
  all_goals
    clear h
    go_enter Try.func22, Try.ntmps22
    go_wp2
    go_ret
    exact ⟨rfl, Up.alloc _ _⟩

theorem rbehind (k n : Int) (w : World) (hk : Key k) (hn : Key n) : Calls Try.prog 43 #[.int .i64 k, .int .i64 n] w (Ret (.int .i64 (fr k n)) w) := by
  obtain ⟨k0, k1⟩ := hk
  obtain ⟨n0, n1⟩ := hn
  by_cases h : n - k < 0
  · have e : fr k n = 4611686018427387904 - (k - n) := by unfold fr; rw [if_pos h]; omega
    rw [e]
    clear e
    go_enter Try.func43, Try.ntmps43
    go_wp2
    go_ret
    exact ⟨rfl, Up.refl _⟩
  · have e : fr k n = n - k := by unfold fr; rw [if_neg h]
    rw [e]
    clear e
    go_enter Try.func43, Try.ntmps43
    go_wp2
    go_ret
    exact ⟨rfl, Up.refl _⟩

theorem rgap (t n : Int) (w : World) (ht : 0 ≤ t ∧ t < 4) (hn : 0 ≤ n ∧ n < 8) : Calls Try.prog 23 #[.int .i64 t, .int .i64 n] w (Ret (.int .i64 (gp t n)) w) := by
  have HT := Lib.hid ht
  have HN := Lib.hid hn
  clear ht hn
  go_enter Try.func23, Try.ntmps23
  go_wp2_with fail
  refine (rtk_ _ _ HT.out).mono ?_
  rintro e w1 ⟨rfl, h1⟩
  go_wp2_with fail
  refine (rnk_ _ _ HN.out).mono ?_
  rintro e w2 ⟨rfl, h2⟩
  go_wp2_with fail
  refine (rbehind _ _ _ (tk_key HT.out) (nk_key HN.out)).mono ?_
  rintro e w3 ⟨rfl, h3⟩
  go_wp2
  go_ret
  exact ⟨rfl, (h1.trans h2).trans h3⟩

theorem rnearer (t a b : Int) (w : World) : Calls Try.prog 17 #[.int .i64 t, .int .i64 a, .int .i64 b] w (Ret (.bool (nr t a b)) w) := by
  cases ht : inB t 4 with
  | false =>
    have HT := Lib.hid ht
    rw [show nr t a b = false by simp [nr, ht]]
    clear ht
    go_enter Try.func17, Try.ntmps17
    go_wp2_with fail
    refine (rtopic _ _).mono ?_
    rintro e w1 ⟨rfl, h1⟩
    rw [HT.out]
    go_wp2
    go_ret
    exact ⟨rfl, h1⟩
  | true =>
    have HT := Lib.hid ht
    cases ha : inB a 8 with
    | false =>
      have HA := Lib.hid ha
      rw [show nr t a b = false by simp [nr, ha]]
      clear ht ha
      go_enter Try.func17, Try.ntmps17
      go_wp2_with fail
      refine (rtopic _ _).mono ?_
      rintro e w1 ⟨rfl, h1⟩
      rw [HT.out]
      go_wp2_with fail
      refine (rnode _ _).mono ?_
      rintro e w2 ⟨rfl, h2⟩
      rw [HA.out]
      go_wp2
      go_ret
      exact ⟨rfl, h1.trans h2⟩
    | true =>
      have HA := Lib.hid ha
      cases hb : inB b 8 with
      | false =>
        have HB := Lib.hid hb
        rw [show nr t a b = false by simp [nr, hb]]
        clear ht ha hb
        go_enter Try.func17, Try.ntmps17
        go_wp2_with fail
        refine (rtopic _ _).mono ?_
        rintro e w1 ⟨rfl, h1⟩
        rw [HT.out]
        go_wp2_with fail
        refine (rnode _ _).mono ?_
        rintro e w2 ⟨rfl, h2⟩
        rw [HA.out]
        go_wp2_with fail
        refine (rnode _ _).mono ?_
        rintro e w3 ⟨rfl, h3⟩
        rw [HB.out]
        go_wp2
        go_ret
        exact ⟨rfl, (h1.trans h2).trans h3⟩
      | true =>
        have HB := Lib.hid hb
        rw [show nr t a b = decide (gp t a < gp t b) by simp [nr, ht, ha, hb]]
        clear ht ha hb
        go_enter Try.func17, Try.ntmps17
        go_wp2_with fail
        refine (rtopic _ _).mono ?_
        rintro e w1 ⟨rfl, h1⟩
        rw [HT.out]
        go_wp2_with fail
        refine (rnode _ _).mono ?_
        rintro e w2 ⟨rfl, h2⟩
        rw [HA.out]
        go_wp2_with fail
        refine (rnode _ _).mono ?_
        rintro e w3 ⟨rfl, h3⟩
        rw [HB.out]
        go_wp2_with fail
        refine (rgap _ _ _ (inB_true.1 HT.out) (inB_true.1 HA.out)).mono ?_
        rintro e w4 ⟨rfl, h4⟩
        go_wp2_with fail
        refine (rgap _ _ _ (inB_true.1 HT.out) (inB_true.1 HB.out)).mono ?_
        rintro e w5 ⟨rfl, h5⟩
        go_wp2
        go_ret
        exact ⟨rfl, (((h1.trans h2).trans h3).trans h4).trans h5⟩

/-! ### the document's owner, of nodes -/
theorem ow_in (t : Int) (l : List Int) : ∀ best, (0 ≤ best ∧ best < 8) → (∀ n ∈ l, 0 ≤ n ∧ n < 8) → 0 ≤ ow t best l ∧ ow t best l < 8 := by
  induction l with
  | nil => intro best hb _; exact hb
  | cons m l ih =>
    intro best hb hl
    refine ih _ ?_ (fun n hn => hl n (List.mem_cons_of_mem _ hn))
    split
    · exact hl m (List.mem_cons_self ..)
    · exact hb
theorem nr_self (t a : Int) : nr t a a = false := by
  unfold nr
  simp

theorem allB_mem {xs : List Int} (h : allB xs = true) : ∀ n ∈ xs, 0 ≤ n ∧ n < 8 := by
  intro n hn
  unfold allB at h
  exact inB_true.1 (List.all_eq_true.1 h n hn)

theorem rowner (t : Int) (v : Value) (xs : List Int) (x : Int) (w : World) (ht : 0 ≤ t ∧ t < 4) (ha : allB xs = true) (h0 : 0 < xs.length) (hx : xs.getD 0 0 = x) (hv : Ints w v xs) :
    Calls Try.prog 24 #[.int .i64 t, v] w (Ret (.int .i64 (ow t x xs)) w) := by
  rcases hv with ⟨rfl, A, c, rfl⟩ | ⟨_, hl, b, off, c, rfl, hc⟩
  · simp at h0
  have HC := Lib.hid hc
  have HT := Lib.hid ht
  have HA := Lib.hid (allB_mem ha)
  have HX := Lib.hid hx
  have hgetmem : ∀ k, k < xs.length → xs.getD k 0 ∈ xs := by
    intro k hk
    rw [List.getD_eq_getElem?_getD, List.getElem?_eq_getElem hk]
    exact List.getElem_mem hk
  have HG := Lib.hid hgetmem
  clear ht ha hx hc hgetmem
  go_enter Try.func24, Try.ntmps24
  go_wp2
  go_loopw [5, 6] (fun best i wr => ∃ k : Nat, k ≤ xs.length ∧ i = .int .i64 k ∧ best = .int .i64 (if k = 0 then -1 else ow t x (xs.take k)) ∧ Up w wr) (fun _ i _ => xs.length - (intOf i).toNat)
  case atStart => exact ⟨0, Nat.zero_le _, rfl, rfl, Up.refl _⟩
  case round =>
    obtain ⟨k, hk, rfl, rfl, hu⟩ := hrel
    have HU := Lib.hid hu
    clear hu
    by_cases hlt : k < xs.length
    · have hcell := HU.out.cell (HC.out k hlt)
      obtain ⟨n, hn⟩ : ∃ n, xs.getD k 0 = n := ⟨_, rfl⟩
      rw [hn] at hcell
      have hnB : 0 ≤ n ∧ n < 8 := HA.out n (by rw [← hn]; exact HG.out k hlt)
      have hs := ow_snoc t n (xs.take k) x
      rw [← hn, ← take_getD xs k hlt, hn] at hs
      rcases Nat.eq_zero_or_pos k with rfl | hk0
      · have hnx : n = x := by rw [← hn]; exact HX.out
        subst hnx
        have hs1 : ow t n (xs.take 1) = n := by
          rw [show (1 : Nat) = 0 + 1 from rfl, hs]
          simp [ow]
        have HS := Lib.hid hs1
        rw [Nat.add_zero] at hcell
        clear hn hs hs1 hnB
        go_wp2
        refine ⟨⟨1, by omega, by go_num, by rw [if_neg (by omega), HS.out], HU.out⟩, by simp [intOf]; omega⟩
      · rw [if_neg (by omega)]
        have hbB := ow_in t (xs.take k) x ⟨(HA.out x (by rw [← HX.out]; exact HG.out 0 h0)).1, (HA.out x (by rw [← HX.out]; exact HG.out 0 h0)).2⟩ (fun m hm => HA.out m (List.mem_of_mem_take hm))
        generalize ow t x (xs.take k) = best at *
        have hnr : nr t n best = decide (gp t n < gp t best) := by
          unfold nr
          rw [inB_true.2 HT.out, inB_true.2 hnB, inB_true.2 hbB]
          simp
        have HS := Lib.hid hs
        have HB := Lib.hid hbB
        have HNB := Lib.hid hnB
        have HR := Lib.hid hnr
        have hneg : decide (best < 0) = false := decide_eq_false (by omega)
        clear hn hs hbB hnB hnr
        go_wp2_with fail
        refine (rgap _ _ _ HT.out HNB.out).mono ?_
        rintro e w1 ⟨rfl, h1⟩
        go_wp2_with fail
        refine (rgap _ _ _ HT.out HB.out).mono ?_
        rintro e w2 ⟨rfl, h2⟩
        have hcell2 := (h1.trans h2).cell hcell
        have HU2 := Lib.hid ((HU.out.trans h1).trans h2)
        clear h1 h2 hcell
        go_wp2
        · have hp : gp t n < gp t best := by assumption
          refine ⟨⟨k + 1, by omega, by go_num, by rw [if_neg (by omega), HS.out, HR.out, decide_eq_true hp]; rfl, HU2.out⟩, by simp [intOf]; omega⟩
        · have hp : ¬ gp t n < gp t best := by omega
          refine ⟨⟨k + 1, by omega, by go_num, by rw [if_neg (by omega), HS.out, HR.out, decide_eq_false hp]; rfl, HU2.out⟩, by simp [intOf]; omega⟩
    · have hkk : k = xs.length := by omega
      have HT2 := Lib.hid (show xs.take k = xs from List.take_of_length_le (by omega))
      rw [if_neg (show ¬ k = 0 by omega)]
      clear hkk
      go_wp2
      go_ret
      exact ⟨by rw [HT2.out]; rfl, HU.out⟩

end Go.Proofs.Yteeibpeefhaoiaa
