/- bellwetherkeep.Twin and bellwetherkeep.Bytes, out of the printed walks, as contracts of this claim's own form. No condition beside the bounds on the bytes' number. -/
import Derived.Test.YteeibpeefhaoiaaShaI
import Derived.Test.YteeibpeefhaoiaaRefA
namespace Go.Proofs.Yteeibpeefhaoiaa
open Go.RowKit Go.Proofs.YteeibpeefhaoiaaW.PrintWords
set_option linter.unusedVariables false

theorem Ow.of_R {k : IntKind} {e : Nat} {w : World} {base : Nat} {ok : Nat → Prop} {v : Value} {xs : List Int} (h : (Kd.int k).R e w base ok v xs) : Ow k e w base v xs := by
  obtain ⟨_, inner, ho, hr⟩ := h
  have hi : inner = xs.map (Value.int k) := by
    have hl : inner.length = xs.length := by have := hr.1; simpa [Kd.int, Kd.scalar] using this
    refine List.ext_getElem (by simp [hl]) fun j h1 h2 => ?_
    have hj : j < xs.length := by omega
    have h3 := hr.2 j xs[j] (List.getElem?_eq_getElem hj)
    have h4 : ((inner.drop (j * 1)).take 1) = [Value.int k xs[j]] := h3
    rw [Nat.mul_one, List.drop_eq_getElem_cons h1, List.take_succ_cons, List.take_zero] at h4
    injection h4 with h5 _
    simpa using h5
  rw [hi] at ho
  exact ho

theorem twin_ (v : Value) (xs : List Int) (w : World) (hv : Rd .u8 w v xs) (hl : xs.length ≤ 1099511627776) : Calls Try.prog 27 #[v] w (RetOw .u8 5 xs w) := by
  obtain ⟨A, c, rfl, hc, hk⟩ := hv.kd hl
  have hc' : xs.length ≤ c := by
    rcases hc with h | rfl
    · exact h
    · simp
  refine (PShaExact.bellwetherkeep_Twin.calls A c xs xs w hk hc' (by unfold PShaExact.bellwetherkeep_Twin.f; rw [if_pos (by simp; omega)]; simp)).mono ?_
  rintro e w' ⟨v0, rfl, hr, hb⟩
  exact ⟨v0, rfl, Ow.of_R hr, ⟨hb⟩⟩

theorem bytes_l0 (xs : List Int) (hl : xs.length ≤ 1099511627776) : ∀ (d i k : Nat), xs.length - i = d → i ≤ xs.length → d < k → PShaExact.bellwetherkeep_Bytes.l0 k xs xs (i : Int) = some true := by
  intro d
  induction d with
  | zero =>
    intro i k hd hi hk
    obtain ⟨k, rfl⟩ : ∃ k', k = k' + 1 := ⟨k - 1, by omega⟩
    unfold PShaExact.bellwetherkeep_Bytes.l0
    rw [if_neg (by omega)]
  | succ d ih =>
    intro i k hd hi hk
    obtain ⟨k, rfl⟩ : ∃ k', k = k' + 1 := ⟨k - 1, by omega⟩
    unfold PShaExact.bellwetherkeep_Bytes.l0
    rw [if_pos (by omega), if_pos (by omega), if_pos (by omega), if_pos rfl]
    have hw : wrap64 ((i : Int) + 1) = ((i + 1 : Nat) : Int) := by unfold wrap64; omega
    rw [hw]
    exact ih (i + 1) k (by omega) (by omega) (by omega)

/-- The same bytes, twice. -/
theorem bytes_ (v v' : Value) (xs : List Int) (w : World) (hv : Rd .u8 w v xs) (hv' : Rd .u8 w v' xs) (hl : xs.length ≤ 1099511627776) : Calls Try.prog 29 #[v, v'] w (Ret (.bool true) w) := by
  obtain ⟨A, c, rfl, hc, hk⟩ := hv.kd hl
  obtain ⟨A', c', rfl, hc', hk'⟩ := hv'.kd hl
  have h1 : xs.length ≤ c := by
    rcases hc with h | rfl
    · exact h
    · simp
  have h2 : xs.length ≤ c' := by
    rcases hc' with h | rfl
    · exact h
    · simp
  refine (PShaExact.bellwetherkeep_Bytes.calls (xs.length + 1) A c xs A' c' xs true w hk h1 hk' h2 (by unfold PShaExact.bellwetherkeep_Bytes.f; rw [if_pos rfl]; exact bytes_l0 xs hl xs.length 0 (xs.length + 1) (by omega) (by omega) (by omega))).mono ?_
  rintro e w' ⟨rfl, hb⟩
  exact ⟨rfl, ⟨hb.below⟩⟩

end Go.Proofs.Yteeibpeefhaoiaa
