/- The law ShaHex returns true for every input: the walk. No condition. -/
import Derived.Test.YteeibpeefhaoiaaShaL
import Derived.Deep.RegionWith
namespace Go.Proofs.Yteeibpeefhaoiaa
open Go.RowKit
set_option linter.unusedVariables false

theorem strOfNums_extract (ys : List Int) (a b : Nat) : (strOfNums ys).extract a b = strOfNums ((ys.drop a).take (b - a)) := by
  unfold strOfNums
  rw [ByteArray.extract_mk, ← List.map_drop, ← List.map_take]
theorem hexL_piece : ∀ (xs : List Int) (k : Nat), k < xs.length → ((hexL xs).drop (2 * k)).take 2 = hexL [xs.getD k 0]
  | [], k, h => by simp at h
  | x :: xs, 0, _ => by simp [hexL]
  | x :: xs, k + 1, h => by
    have := hexL_piece xs k (by simpa using h)
    rw [show 2 * (k + 1) = 2 * k + 1 + 1 by omega]
    simpa [hexL] using this
theorem hex_piece (xs : List Int) (k : Nat) (h : k < xs.length) : (strOfNums (hexL xs)).extract (2 * k) (2 * k + 2) = strOfNums (hexL [xs.getD k 0]) := by
  rw [strOfNums_extract, show 2 * k + 2 - 2 * k = 2 by omega, hexL_piece xs k h]

/-- A slice of bytes. -/
def Byts (w : World) (v : Value) (xs : List Int) : Prop := Rd .u8 w v xs ∧ AllB xs
theorem Byts.nil (w : World) (A : Option Addr) (c : Nat) : Byts w (.slice A 0 c) [] := ⟨.inl ⟨rfl, _, _, rfl⟩, fun x h => by cases h⟩
theorem Byts.opened {w : World} {x : Addr} {len cap : Nat} {zs : List Int} (hl : len ≤ cap) (hm : cap ≤ maxLen) (hz : zs.length = cap)
    (hc : ∀ i, i < zs.length → w.cell? (x.add i) = some (.int .u8 (zs.getD i 0))) (hw : ∀ n ∈ zs, (Lit.int .u8 n).wf = true) : ∃ xs, Byts w (.slice (some x) len cap) xs := by
  rcases Nat.eq_zero_or_pos len with rfl | h0
  · exact ⟨[], Byts.nil _ _ _⟩
  · obtain ⟨b, off, rfl, h⟩ := ints_at hc (by omega)
    have e : (zs.take len).length = len := by simp; omega
    unfold maxLen at hm
    refine ⟨zs.take len, .inr ⟨by omega, by omega, b, off, cap, by rw [e], by omega, fun j hj => ?_⟩, ?_⟩
    · rw [h j (by omega)]
      simp [List.getD_eq_getElem?_getD, show j < len by omega]
    · intro n hn
      have := hw n (List.mem_of_mem_take hn)
      simp [Lit.wf, IntKind.min, IntKind.max, IntKind.signed, IntKind.bits] at this
      omega

theorem Rd.form {k : IntKind} {w : World} {v : Value} {xs : List Int} (h : Rd k w v xs) : ∃ A c, v = .slice A xs.length c := by
  rcases h with ⟨rfl, A, c, rfl⟩ | ⟨_, _, b, off, c, rfl, _⟩
  · exact ⟨A, c, rfl⟩
  · exact ⟨_, c, rfl⟩
theorem Rd.one {k : IntKind} {w : World} {A : Option Addr} {m c : Nat} {xs : List Int} (h : Rd k w (.slice A m c) xs) (j : Nat) (hj : j < m) (hm : xs.length = m) :
    ∃ b off, A = some ⟨b, off, none⟩ ∧ m ≤ c ∧ Rd k w (.slice (some ⟨b, off + j, none⟩) 1 (c - j)) [xs.getD j 0] := by
  rcases h with ⟨rfl, A, c, h⟩ | ⟨h0, h1, b, off, c', h, hcap, hc⟩
  · simp at hm; omega
  · injection h with e1 e2 e3
    subst e1 e2 e3
    refine ⟨b, off, rfl, hcap, .inr ⟨by simp, by simp, b, off + j, c - j, by simp, by simp; omega, fun i hi => ?_⟩⟩
    obtain rfl : i = 0 := by simpa using hi
    simpa using hc j (by omega)

set_option maxRecDepth 100000 in
set_option maxHeartbeats 8000000 in
theorem hexlaw_big (A : Option Addr) (m c : Nat) (w : World) (hm : 300 < m) : Calls Try.prog 9 #[.slice A m c] w (Ret (.bool true) w) := by
  have hm' : (300 : Int) < (m : Int) := by omega
  go_enter Try.func9, Try.ntmps9
  go_wp2_with fail
  go_ret
  exact ⟨rfl, Up.refl _⟩

set_option maxRecDepth 100000 in
set_option maxHeartbeats 8000000 in
theorem hexlaw (v : Value) (xs : List Int) (w : World) (hv : Rd .u8 w v xs) (hB : AllB xs) : Calls Try.prog 9 #[v] w (Ret (.bool true) w) := by
  obtain ⟨A, c, rfl⟩ := hv.form
  by_cases hbig : 300 < xs.length
  · exact hexlaw_big A _ c w hbig
  have hl : xs.length ≤ 300 := by omega
  have HV := Lib.hid hv
  have HB := Lib.hid hB
  have HP := Lib.hid (hex_piece xs)
  have HZ : (strOfNums (hexL xs)).size = 2 * xs.length := by rw [strOfNums_size, hexL_len]
  have HSL := Lib.hid (shaL_len xs)
  have HSI := Lib.hid (shaL_in xs)
  have HH := Lib.hid (show headL xs = part (shaL xs) 0 8 / 4 from rfl)
  have H1 := Lib.hid (sum_ _ xs w hv hB (by omega))
  have H2 := Lib.hid (fun W (u : Up w W) => hex_ _ xs W (hv.up u) hB (by omega))
  have H3 := Lib.hid (fun W (u : Up w W) => head_ _ xs W (hv.up u) hB (by omega))
  have HM := Lib.hid (show xs.length = xs.length from rfl)
  clear hv hB
  generalize shaL xs = S at *
  generalize headL xs = N at *
  generalize strOfNums (hexL xs) = H at *
  generalize hmm : xs.length = m at *
  have hmm' := Lib.hid hmm
  clear hmm hbig
  go_enter Try.func9, Try.ntmps9
  go_wp2_with fail
  refine H1.out.mono ?_
  rintro e0 w1 ⟨v1, rfl, o1, hu1⟩
  obtain ⟨b, c1, rfl, hcap, hc⟩ : ∃ b c, v1 = .slice (some ⟨b, 0, none⟩) 32 c ∧ 32 ≤ c ∧ ∀ j, j < 32 → w1.cell? ⟨b, j, none⟩ = some (.int .u8 (S.getD j 0)) := by
    have h := o1
    rcases h.2 with ⟨rfl, h0⟩ | ⟨g, cap, cur, rfl, hb, hh, h1, _⟩
    · rw [HSL.out] at h0; cases h0
    · rw [HSL.out] at h1 h ⊢
      exact ⟨g, cap, rfl, h1, fun j hj => Ow.cellAt' h HSL.out j hj⟩
  have HU1 := Lib.hid hu1
  have HC := Lib.hid hc
  clear o1 hu1 hc H1
  go_wp2_with fail
  refine (H2.out w1 HU1.out).mono ?_
  rintro e0 w2 ⟨rfl, hu2⟩
  have HU2 := Lib.hid (HU1.out.trans hu2)
  have HC2 := Lib.hid (fun j hj => hu2.cell (HC.out j hj))
  clear hu2 H2 HC HU1
  go_wp2_with fail
  refine (H3.out w2 HU2.out).mono ?_
  rintro e0 w3 ⟨rfl, hu3⟩
  have HU3 := Lib.hid (HU2.out.trans hu3)
  have HC3 := Lib.hid (fun j hj => hu3.cell (HC2.out j hj))
  clear hu3 H3 HC2 HU2
  have hN : 0 ≤ N ∧ N < 4611686018427387904 := by
    have := part_in8 HSI.out 0 8 (by omega)
    rw [HH.out]
    omega
  obtain ⟨hN0, hN1⟩ := hN
  go_wp2_with fail
  go_loopw [6] (fun i wr => ∃ k : Nat, k ≤ m ∧ i = .int .i64 k ∧ Up w3 wr) (fun i _ => m - (intOf i).toNat)
  case atStart => exact ⟨0, by omega, rfl, Up.refl _⟩
  case round =>
    obtain ⟨k, hk, rfl, hu⟩ := hrel
    have HUP := Lib.hid hu
    clear hu
    by_cases hlt : k < m
    · have hk' : (k : Int) < (m : Int) := by omega
      obtain ⟨bb, off, rfl, hcp, hone⟩ := (HV.out.up (HU3.out.trans HUP.out)).one k hlt hmm'.out
      have HONE := Lib.hid hone
      have hs1 : ∀ W, (Instr.slice 9 (.string H) (some (.int .i64 (2 * (k : Int)))) (some (.int .i64 (2 * (k : Int) + 2))) none).run Try.prog W = .ok (.string (strOfNums (hexL [xs.getD k 0]))) W := fun W => by
        rw [run_slice_string W 9 H .i64 .i64 _ _ Try.underlying9 (by omega) (by omega) (by rw [HZ]; omega), ← HP.out k hlt]
        congr 3
      generalize hP : strOfNums (hexL [xs.getD k 0]) = P at hs1
      have HPQ := Lib.hid hP
      clear hone hP
      have e1 : IntKind.i64.wrap (2 * (k : Int)) = 2 * (k : Int) := by rw [IntKind.wrap_i64]; omega
      have e2 : IntKind.i64.wrap (2 * (k : Int) + 2) = 2 * (k : Int) + 2 := by rw [IntKind.wrap_i64]; omega
      have e3 : IntKind.i64.wrap ((k : Int) + 1) = (k : Int) + 1 := by rw [IntKind.wrap_i64]; omega
      go_wp2_with fail
      have HBK := Lib.hid (show AllB [xs.getD k 0] from fun x hx => by rw [List.mem_singleton.1 hx]; exact HB.out.getD k)
      go_region_with (first
        | (go_at_call 31
           refine (hex_ _ [xs.getD k 0] _ (HONE.out.up (Up.drew wr)) HBK.out ?_).mono ?_
           (simp)
           rintro e0 w4 ⟨rfl, hu4⟩
           rw [HPQ.out]
           have HU4 := Lib.hid (HUP.out.trans ((Up.drew wr).trans hu4))
           clear hu4))
      all_goals
        go_wp2_with fail
        go_roundw
        case rel => exact ⟨k + 1, by omega, by simp, HU4.out⟩
        case measure => simp [intOf]; omega
    · obtain rfl : k = m := by omega
      go_wp2_with fail
      have HUW := Lib.hid (HU3.out.trans HUP.out)
      have HCW := Lib.hid (fun j hj => HUP.out.cell (HC3.out j hj))
      clear HUP HU3 HC3 HP HV HB HZ hmm' hl
      rename World => wq
      have HW0 := Lib.hid (wakes_)
      go_loopw [5, 7] (fun n i w9 => Up wq w9 ∧ ((i = .int .i64 (-1) ∧ n = .int .i64 0) ∨ ∃ j : Nat, j ≤ 7 ∧ i = .int .i64 j ∧ n = .int .i64 (if j = 7 then N else part S 0 (j + 1)))) (fun _ i _ => (intOf i + 1).toNat)
      case atStart => exact ⟨Up.refl _, .inr ⟨7, by omega, rfl, rfl⟩⟩
      case round =>
        obtain ⟨hu, ⟨rfl, rfl⟩ | ⟨j, hj, rfl, rfl⟩⟩ := hrel
        · have HUX := Lib.hid (HUW.out.trans hu)
          clear hu HCW
          go_wp2_with fail
          refine (HW0.out wr).mono ?_
          rintro e0 w5 ⟨rfl, hu5⟩
          have HUY := Lib.hid (HUX.out.trans hu5)
          clear hu5 HUX
          go_wp2
          go_ret
          exact ⟨rfl, HUY.out⟩
        · have cb := hu.cell (HCW.out j (by omega))
          have HUX := Lib.hid hu
          have hq := HSI.out.getD j
          have hp := part_in8 HSI.out 0 j (by omega)
          have hps : part S 0 (j + 1) = part S 0 j * 256 + S.getD j 0 := by simp [part]
          have hpow : (256 : Int) ^ j ≤ 256 ^ 7 := by
            have : j = 0 ∨ j = 1 ∨ j = 2 ∨ j = 3 ∨ j = 4 ∨ j = 5 ∨ j = 6 ∨ j = 7 := by omega
            rcases this with rfl | rfl | rfl | rfl | rfl | rfl | rfl | rfl <;> decide
          have hp2 : part S 0 j < 72057594037927936 := by omega
          have h0 : j = 0 → part S 0 j = 0 := by rintro rfl; rfl
          by_cases h7 : j = 7
          · subst h7
            rw [if_pos rfl]
            rw [HH.out, hps]
            generalize hpp : part S 0 7 = p at *
            generalize hqq : S.getD 7 0 = q at *
            obtain ⟨p0, _⟩ := hp
            obtain ⟨q0, q1⟩ := hq
            have HPP := Lib.hid hpp
            have t1 : q.tdiv 4 = q / 4 := Int.tdiv_eq_ediv_of_nonneg q0
            have t2 : ((p * 256 + q) / 4).tmod 64 = q / 4 := by rw [Int.tmod_eq_emod_of_nonneg (by omega)]; omega
            have t3 : ((p * 256 + q) / 4).tdiv 64 = p := by rw [Int.tdiv_eq_ediv_of_nonneg (by omega)]; omega
            generalize (p * 256 + q) / 4 = NV at *
            clear hps hpp hqq hpow HCW h0
            go_wp2_with fail
            go_roundw
            case rel => exact ⟨HUX.out, .inr ⟨6, by omega, by simp, by simp [HPP.out]⟩⟩
            case measure => simp [intOf]
          · rw [if_neg h7]
            rw [hps]
            generalize hpp : part S 0 j = p at *
            generalize hqq : S.getD j 0 = q at *
            obtain ⟨p0, _⟩ := hp
            obtain ⟨q0, q1⟩ := hq
            have HPP := Lib.hid hpp
            have H0 := Lib.hid h0
            have t2 : (p * 256 + q).tmod 256 = q := by rw [Int.tmod_eq_emod_of_nonneg (by omega)]; omega
            have t3 : (p * 256 + q).tdiv 256 = p := by rw [Int.tdiv_eq_ediv_of_nonneg (by omega)]; omega
            generalize p * 256 + q = NV at *
            have h7' : ¬ ((j : Int) = 7) := by omega
            clear hps hpp hqq hpow HCW h0
            go_wp2_with fail
            go_roundw
            case rel =>
              refine ⟨HUX.out, ?_⟩
              rcases Nat.eq_zero_or_pos j with hz | hz
              · subst hz
                exact .inl ⟨by simp, by rw [H0.out rfl]⟩
              · refine .inr ⟨j - 1, by omega, ?_, ?_⟩
                · congr 1; omega
                · rw [if_neg (by omega), show j - 1 + 1 = j by omega, HPP.out]
            case measure => simp [intOf]

theorem hexlaw_any (a : Option Addr) (len cap : Nat) (xs : List Int) (w : World) (h : Byts w (.slice a len cap) xs) : Calls Try.prog 9 #[.slice a len cap] w (Ret (.bool true) w) :=
  hexlaw _ xs w h.1 h.2

end Go.Proofs.Yteeibpeefhaoiaa
