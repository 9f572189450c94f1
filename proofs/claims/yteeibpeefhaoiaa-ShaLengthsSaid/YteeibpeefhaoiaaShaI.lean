/- SHA-256: digits of bytes (sha.Hex), out of the printed walk. No condition beside the bound on the bytes' number. -/
import Derived.Test.YteeibpeefhaoiaaShaH
import Derived.Test.YteeibpeefhaoiaaHexA
namespace Go.Proofs.Yteeibpeefhaoiaa
open Go.RowKit Go.Proofs.YteeibpeefhaoiaaW.PrintWords
set_option linter.unusedVariables false

theorem Rd.kd {w : World} {v : Value} {xs : List Int} (h : Rd .u8 w v xs) (hl : xs.length ≤ 1099511627776) : ∃ A c, v = .slice A xs.length c ∧ ((xs.length ≤ c) ∨ xs = []) ∧ (Kd.int .u8).C w A xs.length xs := by
  rcases h with ⟨rfl, A, c, rfl⟩ | ⟨h0, h1, b, off, c, rfl, hcap, hc⟩
  · exact ⟨A, c, rfl, .inr rfl, Kd.C_of_reads (d := 0) ⟨rfl, by simp, fun h => absurd h (Nat.lt_irrefl 0)⟩⟩
  · exact ⟨_, c, rfl, .inl hcap, Kd.C_of_reads (d := 0) ⟨rfl, h1, fun _ => ⟨_, rfl, fun j hj => by
      have h := hc j hj
      have e : (⟨b, off, none⟩ : Addr).add j = ⟨b, off + j, none⟩ := by
        unfold Addr.add
        split
        · rename_i h0; subst h0; rfl
        · rfl
      rw [e]
      exact h⟩⟩⟩

def dig : ByteArray := ⟨#[48, 49, 50, 51, 52, 53, 54, 55, 56, 57, 97, 98, 99, 100, 101, 102]⟩
/-- The digits of bytes, as numbers. -/
def hexL : List Int → List Int
  | [] => []
  | b :: bs => bt dig (b / 16) :: bt dig (b % 16) :: hexL bs
theorem hexL_len : ∀ xs, (hexL xs).length = 2 * xs.length
  | [] => rfl
  | b :: bs => by simp [hexL, hexL_len bs]; omega

theorem and15 (b : Int) (h : 0 ≤ b ∧ b < 256) : bits .and .u8 b 15 = b % 16 := by
  have H : ∀ n : Nat, n < 256 → bits .and .u8 (n : Int) 15 = (n : Int) % 16 := by decide +kernel
  have := H b.toNat (by omega)
  rwa [Int.toNat_of_nonneg h.1] at this

theorem hexL_snoc (bs : List Int) (b : Int) : hexL (bs ++ [b]) = hexL bs ++ [bt dig (b / 16), bt dig (b % 16)] := by
  induction bs with
  | nil => rfl
  | cons x bs ih => simp [hexL, ih]

theorem hex_f (xs : List Int) (hB : AllB xs) (hl : xs.length ≤ 1099511627776) : ∀ (d i k : Nat), xs.length - i = d → i ≤ xs.length → d < k →
    PShaExact.sha_Hex.l0 k (hexL (xs.take i)) xs (xs.length : Int) (i : Int) = some (strOfNums (hexL xs)) := by
  intro d
  induction d with
  | zero =>
    intro i k hd hi hk
    obtain ⟨k, rfl⟩ : ∃ k', k = k' + 1 := ⟨k - 1, by omega⟩
    obtain rfl : i = xs.length := by omega
    unfold PShaExact.sha_Hex.l0
    simp
  | succ d ih =>
    intro i k hd hi hk
    obtain ⟨k, rfl⟩ : ∃ k', k = k' + 1 := ⟨k - 1, by omega⟩
    have hb := hB.getD i
    have hr : rd xs (i : Int) = xs.getD i 0 := by simp [rd]
    have hlt : i < xs.length := by omega
    unfold PShaExact.sha_Hex.l0
    rw [hr, and15 _ hb]
    obtain ⟨b, hbb⟩ : ∃ b, xs.getD i 0 = b := ⟨_, rfl⟩
    rw [hbb] at hb ⊢
    rw [if_pos (by omega), if_pos (by omega), if_pos (by omega), if_pos (by omega), if_pos (by omega), if_pos (by omega), if_pos (by omega)]
    simp only [Option.bind_some]
    have ht : hexL (xs.take (i + 1)) = hexL (xs.take i) ++ [bt dig (b / 16), bt dig (b % 16)] := by
      rw [List.take_add_one, ← hexL_snoc]
      congr 2
      rw [← hbb, List.getD_eq_getElem?_getD, List.getElem?_eq_getElem hlt]; rfl
    rw [if_pos (by rw [hexL_len, List.length_take]; simp; omega)]
    have hw : wrap64 ((i : Int) + 1) = ((i + 1 : Nat) : Int) := by unfold wrap64; omega
    rw [hw]
    have := ih (i + 1) k (by omega) (by omega) (by omega)
    rw [ht] at this
    exact this

theorem hex_ (v : Value) (xs : List Int) (w : World) (hv : Rd .u8 w v xs) (hB : AllB xs) (hl : xs.length ≤ 1099511627776) : Calls Try.prog 31 #[v] w (Ret (.string (strOfNums (hexL xs))) w) := by
  obtain ⟨A, c, rfl, hc, hk⟩ := hv.kd hl
  have hc' : xs.length ≤ c := by
    rcases hc with h | rfl
    · exact h
    · simp
  refine (PShaExact.sha_Hex.calls (xs.length + 1) A c xs _ w hk hc' (hex_f xs hB hl (xs.length - 0) 0 (xs.length + 1) rfl (by omega) (by omega))).mono ?_
  rintro e w' ⟨rfl, hb⟩
  exact ⟨rfl, ⟨hb⟩⟩

end Go.Proofs.Yteeibpeefhaoiaa
