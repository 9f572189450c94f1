/- What package ring's functions over lists answer, and the document's own functions on nodes and topics, for all numbers and all lists. No condition beside the numbers' bounds that each states. -/
import Derived.Test.YteeibpeefhaoiaaRingA
import Derived.LoopTactic
namespace Go.Proofs.Yteeibpeefhaoiaa
open Go.RowKit
set_option linter.unusedVariables false

theorem Up.cell {w w' : World} (h : Up w w') {a : Addr} {v : Value} (hc : w.cell? a = some v) : w'.cell? a = some v :=
  (h.out.cell (World.block_lt_of_cell? w a hc)).trans hc

/-- A slice of ints reads as a list. -/
def Ints (w : World) (v : Value) (xs : List Int) : Prop :=
  (xs = [] ∧ ∃ A c, v = .slice A 0 c) ∨ (0 < xs.length ∧ xs.length ≤ 9223372036854775807 ∧ ∃ b off c, v = .slice (some ⟨b, off, none⟩) xs.length c ∧ ∀ j, j < xs.length → w.cell? ⟨b, off + j, none⟩ = some (.int .i64 (xs.getD j 0)))
theorem Ints.up {w w' : World} {v : Value} {xs : List Int} (h : Ints w v xs) (u : Up w w') : Ints w' v xs := by
  rcases h with h | ⟨h0, h1, b, off, c, rfl, hc⟩
  · exact .inl h
  · exact .inr ⟨h0, h1, b, off, c, rfl, fun j hj => u.cell (hc j hj)⟩

/-! ### slices.IndexFunc at ints, with a predicate of the program's own -/
def IsIx (p : Int → Bool) (xs : List Int) (i : Int) : Prop :=
  (i = -1 ∧ ∀ j, j < xs.length → p (xs.getD j 0) = false) ∨ (0 ≤ i ∧ ∃ k, k < xs.length ∧ i = (k : Int) ∧ p (xs.getD k 0) = true ∧ ∀ j, j < k → p (xs.getD j 0) = false)
def RetIx (p : Int → Bool) (xs : List Int) (w : World) (e : Ending) (w' : World) : Prop := ∃ i, IsIx p xs i ∧ e = .returned (.int .i64 i) ∧ Up w w'

theorem out_ (n : Int) (w : World) : Calls Try.prog 53 #[.int .i64 n] w (Ret (.bool (!inB n 8)) w) := by
  go_enter Try.func53, Try.ntmps53
  go_wp2_with fail
  refine (is_ _ _).mono ?_
  rintro e w1 ⟨rfl, h1⟩
  go_wp2
  go_ret
  exact ⟨rfl, h1⟩

theorem index_ (v : Value) (xs : List Int) (w : World) (hv : Ints w v xs) :
    Calls Try.prog 60 #[v, .func (.func 53) #[] #[]] w (RetIx (fun n => !inB n 8) xs w) := by
  rcases hv with ⟨rfl, A, c, rfl⟩ | ⟨h0, h1, b, off, c, rfl, hc⟩
  · go_enter Try.func60, Try.ntmps60
    go_wp2
    go_loopw [8] (fun i wr => i = .int .i64 0 ∧ wr = w) (fun _ _ => 0)
    case atStart => exact ⟨rfl, rfl⟩
    case round =>
      obtain ⟨rfl, rfl⟩ := hrel
      go_wp2
      go_ret
      exact ⟨-1, .inl ⟨rfl, fun j hj => by simp at hj⟩, rfl, Up.refl _⟩
  · have HC := Lib.hid hc
    clear hc
    have hw0 := Lib.hid (Up.refl w)
    go_enter Try.func60, Try.ntmps60
    go_wp2
    go_loopw [5, 8] (fun q i wr => ∃ k : Nat, k ≤ xs.length ∧ i = .int .i64 k ∧ (∀ j, j < k → (fun n => !inB n 8) (xs.getD j 0) = false) ∧ Up w wr) (fun _ i _ => xs.length - (intOf i).toNat)
    case atStart => exact ⟨0, Nat.zero_le _, rfl, fun j hj => by omega, Up.refl _⟩
    case round =>
      obtain ⟨k, hk, rfl, hno, hu⟩ := hrel
      have HN := Lib.hid hno
      have HU := Lib.hid hu
      clear hno hu
      by_cases hlt : k < xs.length
      · have hcell := HU.out.cell (HC.out k hlt)
        obtain ⟨x, hx⟩ : ∃ x, xs.getD k 0 = x := ⟨_, rfl⟩
        rw [hx] at hcell
        have HX := Lib.hid hx
        clear hx
        go_wp2_with fail
        refine (out_ _ _).mono ?_
        rintro e w1 ⟨rfl, u1⟩
        go_wp2
        · have hp : (!inB x 8) = true := by assumption
          go_ret
          exact ⟨k, .inr ⟨by omega, k, hlt, rfl, by rw [HX.out]; exact hp, HN.out⟩, rfl, HU.out.trans u1⟩
        · have hp : (!inB x 8) = false := by assumption
          refine ⟨⟨k + 1, by omega, by go_num, ?_, HU.out.trans u1⟩, by simp [intOf]; omega⟩
          intro j hj
          by_cases e : j = k
          · subst e; rw [HX.out]; exact hp
          · exact HN.out j (by omega)
      · have hkk : k = xs.length := by omega
        go_wp2
        go_ret
        exact ⟨-1, .inl ⟨rfl, fun j hj => HN.out j (by omega)⟩, rfl, HU.out⟩

theorem isIx_any {p : Int → Bool} {xs : List Int} {i : Int} (h : IsIx p xs i) : decide (0 ≤ i) = xs.any p := by
  rcases h with ⟨rfl, h⟩ | ⟨h0, k, hk, rfl, hp, _⟩
  · symm
    rw [show decide ((0 : Int) ≤ -1) = false by decide, List.any_eq_false]
    intro x hx
    obtain ⟨j, hj, rfl⟩ := List.mem_iff_getElem.1 hx
    have := h j hj
    rw [List.getD_eq_getElem?_getD, List.getElem?_eq_getElem hj] at this
    simp only [Option.getD_some] at this
    simp [this]
  · rw [decide_eq_true h0]
    symm
    rw [List.any_eq_true]
    refine ⟨xs[k], List.getElem_mem hk, ?_⟩
    rw [List.getD_eq_getElem?_getD, List.getElem?_eq_getElem hk] at hp
    exact hp

theorem contains_ (v : Value) (xs : List Int) (w : World) (hv : Ints w v xs) :
    Calls Try.prog 52 #[v, .func (.func 53) #[] #[]] w (Ret (.bool (xs.any fun n => !inB n 8)) w) := by
  have HV := Lib.hid hv
  clear hv
  go_enter Try.func52, Try.ntmps52
  go_wp2_with fail
  refine (index_ v xs _ HV.out).mono ?_
  rintro e w1 ⟨i, hi, rfl, h1⟩
  have h := isIx_any hi
  have HI := Lib.hid h
  clear hi h
  go_wp2
  go_ret
  exact ⟨by rw [← HI.out]; rfl, h1⟩

def allB (xs : List Int) : Bool := xs.all fun n => inB n 8
theorem allB_any (xs : List Int) : (!xs.any fun n => !inB n 8) = allB xs := by
  unfold allB
  rw [List.all_eq_not_any_not]

theorem all_ (v : Value) (xs : List Int) (w : World) (hv : Ints w v xs) : Calls Try.prog 41 #[v] w (Ret (.bool (allB xs)) w) := by
  have HV := Lib.hid hv
  have HA := Lib.hid (allB_any xs)
  clear hv
  go_enter Try.func41, Try.ntmps41
  go_wp2_with fail
  refine (contains_ v xs _ HV.out).mono ?_
  rintro e w1 ⟨rfl, h1⟩
  go_wp2
  go_ret
  exact ⟨by rw [HA.out]; rfl, h1⟩

/-! ### the owner -/
/-- The best of a list and one more: the first of the least gap. -/
def ow (t best : Int) : List Int → Int
  | [] => best
  | n :: l => ow t (if nr t n best = true then n else best) l
theorem ow_snoc (t : Int) (n : Int) (l : List Int) : ∀ best, ow t best (l ++ [n]) = (if nr t n (ow t best l) = true then n else ow t best l) := by
  induction l with
  | nil => intro best; rfl
  | cons m l ih => intro best; exact ih _

def ownV (t : Int) (xs : List Int) : Value :=
  if inB t 4 = true then (if allB xs = true then (match xs with | [] => .tuple #[.int .i64 0, .int .i64 7] | x :: _ => .tuple #[.int .i64 (ow t x xs), .int .i64 0]) else .tuple #[.int .i64 0, .int .i64 1])
  else .tuple #[.int .i64 0, .int .i64 1]

theorem take_getD (xs : List Int) (k : Nat) (h : k < xs.length) : xs.take (k + 1) = xs.take k ++ [xs.getD k 0] := by
  rw [List.take_succ_eq_append_getElem h, List.getD_eq_getElem?_getD, List.getElem?_eq_getElem h]; rfl

theorem owner_ (t : Int) (v : Value) (xs : List Int) (w : World) (hv : Ints w v xs) : Calls Try.prog 15 #[.int .i64 t, v] w (Ret (ownV t xs) w) := by
  have HV := Lib.hid hv
  cases ht : inB t 4 with
  | false =>
    have HT := Lib.hid ht
    rw [show ownV t xs = .tuple #[.int .i64 0, .int .i64 1] by simp [ownV, ht]]
    clear ht hv
    go_enter Try.func15, Try.ntmps15
    go_wp2_with fail
    refine (topic_ _ _).mono ?_
    rintro e w1 ⟨rfl, h1⟩
    rw [show ok1 (inB t 4) (tk t) = .tuple #[.int .i64 0, .int .i64 1] by rw [HT.out]; rfl]
    go_wp2
    go_ret2
    exact ⟨rfl, h1⟩
  | true =>
    have HT := Lib.hid ht
    cases ha : allB xs with
    | false =>
      have HA := Lib.hid ha
      rw [show ownV t xs = .tuple #[.int .i64 0, .int .i64 1] by simp [ownV, ht, ha]]
      clear ht ha hv
      go_enter Try.func15, Try.ntmps15
      go_wp2_with fail
      refine (topic_ _ _).mono ?_
      rintro e w1 ⟨rfl, h1⟩
      rw [show ok1 (inB t 4) (tk t) = .tuple #[.int .i64 (tk t), .int .i64 0] by rw [HT.out]; rfl]
      go_wp2_with fail
      refine (all_ v xs _ (HV.out.up h1)).mono ?_
      rintro e w2 ⟨rfl, h2⟩
      rw [HA.out]
      go_wp2
      go_ret2
      exact ⟨rfl, h1.trans h2⟩
    | true =>
      have HA := Lib.hid ha
      rcases hv with ⟨rfl, A, c, rfl⟩ | ⟨h0, hl, b, off, c, rfl, hc⟩
      · rw [show ownV t [] = .tuple #[.int .i64 0, .int .i64 7] by simp [ownV, ht, allB]]
        clear ht ha
        go_enter Try.func15, Try.ntmps15
        go_wp2_with fail
        refine (topic_ _ _).mono ?_
        rintro e w1 ⟨rfl, h1⟩
        rw [show ok1 (inB t 4) (tk t) = .tuple #[.int .i64 (tk t), .int .i64 0] by rw [HT.out]; rfl]
        go_wp2_with fail
        refine (all_ _ [] _ (HV.out.up h1)).mono ?_
        rintro e w2 ⟨rfl, h2⟩
        rw [HA.out]
        go_wp2
        go_ret2
        exact ⟨rfl, h1.trans h2⟩
      · have HC := Lib.hid hc
        obtain ⟨x, hx⟩ : ∃ x, xs.getD 0 0 = x := ⟨_, rfl⟩
        have HO := Lib.hid (show ownV t xs = .tuple #[.int .i64 (ow t x xs), .int .i64 0] by
          cases xs with
          | nil => simp at h0
          | cons y ys => simp at hx; subst hx; simp [ownV, ht, ha])
        have HX := Lib.hid hx
        clear ht ha hc hx
        rw [HO.out]
        go_enter Try.func15, Try.ntmps15
        go_wp2_with fail
        refine (topic_ _ _).mono ?_
        rintro e w1 ⟨rfl, h1⟩
        rw [show ok1 (inB t 4) (tk t) = .tuple #[.int .i64 (tk t), .int .i64 0] by rw [HT.out]; rfl]
        go_wp2_with fail
        refine (all_ _ xs _ (HV.out.up h1)).mono ?_
        rintro e w2 ⟨rfl, h2⟩
        rw [HA.out]
        have hcell := (h1.trans h2).cell (HC.out 0 h0)
        rw [HX.out, Nat.add_zero] at hcell
        have HU2 := Lib.hid (h1.trans h2)
        clear h1 h2
        have hne : ((xs.length : Int) == 0) = false := by rw [beq_eq_false_iff_ne]; omega
        go_wp2
        go_loopw [8, 10, 33] (fun best q i wr => ∃ k : Nat, k ≤ xs.length ∧ i = .int .i64 k ∧ best = .int .i64 (ow t x (xs.take k)) ∧ Up w wr) (fun _ _ i _ => xs.length - (intOf i).toNat)
        case atStart => exact ⟨0, Nat.zero_le _, rfl, rfl, HU2.out⟩
        case round =>
          obtain ⟨k, hk, rfl, rfl, hu⟩ := hrel
          have HU := Lib.hid hu
          clear hu hcell
          by_cases hlt : k < xs.length
          · have hcell := HU.out.cell (HC.out k hlt)
            obtain ⟨n, hn⟩ : ∃ n, xs.getD k 0 = n := ⟨_, rfl⟩
            rw [hn] at hcell
            have hs := ow_snoc t n (xs.take k) x
            rw [← hn, ← take_getD xs k hlt, hn] at hs
            generalize ow t x (xs.take k) = best at *
            have HS := Lib.hid hs
            clear hn hs
            go_wp2_with fail
            refine (nearer_ _ _ _ _).mono ?_
            rintro e w3 ⟨rfl, h3⟩
            go_wp2
            · have hp : nr t n best = true := by assumption
              refine ⟨⟨k + 1, by omega, by go_num, by rw [HS.out, if_pos hp], HU.out.trans h3⟩, by simp [intOf]; omega⟩
            · have hp : nr t n best = false := by assumption
              refine ⟨⟨k + 1, by omega, by go_num, by rw [HS.out, hp]; rfl, HU.out.trans h3⟩, by simp [intOf]; omega⟩
          · have hkk : k = xs.length := by omega
            have HT2 := Lib.hid (show xs.take k = xs from List.take_of_length_le (by omega))
            clear hkk
            go_wp2
            go_ret2
            exact ⟨by rw [HT2.out]; rfl, HU.out⟩

end Go.Proofs.Yteeibpeefhaoiaa
