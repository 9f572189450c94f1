/- bellwetherref01.Sha answers the sum's bytes (shaL), in memory of its own. Condition: the bytes' number at most 2 to the 40th. -/
import Derived.Test.YteeibpeefhaoiaaShaG
import Derived.Test.YteeibpeefhaoiaaRefD
import Derived.Test.YteeibpeefhaoiaaRefH
import Derived.Deep.RegionHeld3
namespace Go.Proofs.Yteeibpeefhaoiaa
open Go.RowKit
set_option linter.unusedVariables false
set_option linter.unusedSimpArgs false

/-- The first bytes of a number's eight. -/
theorem gr_take (n : Int) (m k : Nat) (hk : k < m) : (gr n m).take (k + 1) = (gr n m).take k ++ [n / 2 ^ (8 * (m - 1 - k)) % 256] := by
  rw [List.take_add_one]
  congr 1
  rw [List.getElem?_eq_getElem (by rw [gr_len]; exact hk)]
  simp [gr]

theorem Ow.block {k : IntKind} {e : TypeId} {w : World} {base : Nat} {v : Value} {xs : List Int} (h : Ow k e w base v xs) (h0 : 0 < xs.length) :
    ∃ g cap, v = .slice (some ⟨g, 0, none⟩) xs.length cap ∧ base ≤ g ∧ g < w.heap.size ∧ xs.length ≤ cap ∧ ∀ j, j < xs.length → w.cell? ⟨g, j, none⟩ = some (.int k (xs.getD j 0)) := by
  have h' := h
  rcases h.2 with ⟨rfl, h1⟩ | ⟨g, cap, cur, rfl, hb, hh, h1, _⟩
  · omega
  · exact ⟨g, cap, rfl, hb, (Array.getElem?_eq_some_iff.1 hh).1, h1, fun j hj => Ow.cellAt' h' rfl j hj⟩

theorem wl_succ (bs : List Int) (k : Nat) : wl bs (k + 1) = wl bs k ++ [if k < 16 then part bs (4 * k) 4 else ((wl bs k).getD (k - 16) 0 + s0 ((wl bs k).getD (k - 15) 0) + (wl bs k).getD (k - 7) 0 + s1 ((wl bs k).getD (k - 2) 0)) % 4294967296] := rfl
/-- A slice of eight words of the call's own. -/
def Sl8 (lo : Nat) (W : World) (s : Value) (xs : List Int) : Prop := ∃ b c, s = .slice (some ⟨b, 0, none⟩) 8 c ∧ lo ≤ b ∧ b < W.heap.size ∧ 8 ≤ c ∧ ∀ j, j < 8 → W.cell? ⟨b, j, none⟩ = some (.int .u32 (xs.getD j 0))
theorem hold7 {W w w1 : World} {a0 a1 a2 a3 a4 a5 a6 : Addr} {x0 x1 x2 x3 x4 x5 x6 : Value} (u : Up w w1)
    (h : Up W w ∧ w.cell? a0 = some x0 ∧ w.cell? a1 = some x1 ∧ w.cell? a2 = some x2 ∧ w.cell? a3 = some x3 ∧ w.cell? a4 = some x4 ∧ w.cell? a5 = some x5 ∧ w.cell? a6 = some x6) :
    Up W w1 ∧ w1.cell? a0 = some x0 ∧ w1.cell? a1 = some x1 ∧ w1.cell? a2 = some x2 ∧ w1.cell? a3 = some x3 ∧ w1.cell? a4 = some x4 ∧ w1.cell? a5 = some x5 ∧ w1.cell? a6 = some x6 :=
  ⟨h.1.trans u, u.cell h.2.1, u.cell h.2.2.1, u.cell h.2.2.2.1, u.cell h.2.2.2.2.1, u.cell h.2.2.2.2.2.1, u.cell h.2.2.2.2.2.2.1, u.cell h.2.2.2.2.2.2.2⟩
theorem zip_of {H R ys : List Int} (hH : H.length = 8) (hR : R.length = 8) (hy : ys.length = 8) (h : ∀ j, j < 8 → ys.getD j 0 = if j < 8 then add (H.getD j 0) (R.getD j 0) else H.getD j 0) : ys = List.zipWith add H R := by
  refine List.ext_getElem (by simp [hH, hR, hy]) fun j h1 h2 => ?_
  have h3 := h j (by omega)
  rw [if_pos (by omega), List.getD_eq_getElem?_getD, List.getElem?_eq_getElem h1] at h3
  simp only [Option.getD_some] at h3
  rw [h3, List.getElem_zipWith]
  congr 1
  · rw [List.getD_eq_getElem?_getD, List.getElem?_eq_getElem (by omega)]; rfl
  · rw [List.getD_eq_getElem?_getD, List.getElem?_eq_getElem (by omega)]; rfl
theorem other_cell {w : World} {g b j i : Nat} {v y : Value} (h : w.cell? ⟨b, i, none⟩ = some y) (hne : b ≠ g) : (w.setCell ⟨g, j, none⟩ v).cell? ⟨b, i, none⟩ = some y := by
  rw [World.cell?_setCell_other]
  · exact h
  · intro e; injection e with e1 _ _; exact hne e1.symm

/-- What stands between two blocks' turns. -/
structure Inv (w W0 : World) (gm gh gk hb hcap : Nat) (ms : List Int) (M t : Nat) (W : World) : Prop where
  h : Ow .u32 52 W hb (.slice (some ⟨gh, 0, none⟩) 8 hcap) (hs ms (List.range t))
  m : ∀ j, j < 64 * M → W.cell? ⟨gm, j, none⟩ = some (.int .u8 (ms.getD j 0))
  k : ∀ j, j < 64 → W.cell? ⟨gk, j, none⟩ = some (.int .u32 (ktab.getD j 0))
  u : Up w W
  s : W0.heap.size ≤ W.heap.size
theorem Inv.up {w W0 : World} {gm gh gk hb hcap : Nat} {ms : List Int} {M t : Nat} {W W' : World} (i : Inv w W0 gm gh gk hb hcap ms M t W) (u : Up W W') : Inv w W0 gm gh gk hb hcap ms M t W' :=
  ⟨i.h.up u, fun j hj => u.cell (i.m j hj), fun j hj => u.cell (i.k j hj), i.u.trans u, Nat.le_trans i.s u.out.size⟩

theorem Inv.next {w W0 : World} {gm gh gk hb hcap : Nat} {ms bs ws H R ys : List Int} {M t : Nat} {W : World} (h0 : hs ms (List.range (t + 1)) = sum1 (hs ms (List.range t)) bs) (hH : hs ms (List.range t) = H) (hw : wl bs 64 = ws) (hR : run H ktab ws 64 = R) (hy : ys = List.zipWith add H R)
    (h : Ow .u32 52 W hb (.slice (some ⟨gh, 0, none⟩) 8 hcap) ys) (m : ∀ j, j < 64 * M → W.cell? ⟨gm, j, none⟩ = some (.int .u8 (ms.getD j 0))) (k : ∀ j, j < 64 → W.cell? ⟨gk, j, none⟩ = some (.int .u32 (ktab.getD j 0))) (u : Up w W) (s : W0.heap.size ≤ W.heap.size) :
    Inv w W0 gm gh gk hb hcap ms M (t + 1) W := by
  refine ⟨?_, m, k, u, s⟩
  have e : hs ms (List.range (t + 1)) = ys := by
    rw [h0, hH]; unfold sum1; rw [hw, hR, ← hy]
  rw [e]
  exact h

set_option maxRecDepth 1000000 in
set_option maxHeartbeats 80000000 in
theorem ref_sha_of (roots8 : ∀ w, Calls Try.prog 50 #[.int .i64 8, .int .i64 2] w (RetOw .u32 52 htab w)) (roots64 : ∀ w, Calls Try.prog 50 #[.int .i64 64, .int .i64 3] w (RetOw .u32 52 ktab w))
    (v : Value) (xs : List Int) (w : World) (hv : Rd .u8 w v xs) (hB : AllB xs) (hl : xs.length ≤ 1099511627776) : Calls Try.prog 30 #[v] w (RetOw .u8 5 (shaL xs) w) := by
  have HV := Lib.hid hv
  have R8 := Lib.hid roots8
  have R64 := Lib.hid roots64
  have HB := Lib.hid hB
  obtain ⟨A, c, rfl⟩ : ∃ A c, v = .slice A xs.length c := by
    rcases hv with ⟨rfl, A, c, rfl⟩ | ⟨h0, h1, b, off, c, rfl, _⟩
    · exact ⟨A, c, rfl⟩
    · exact ⟨_, c, rfl⟩
  clear hv roots8 roots64 hB
  go_enter Try.func30, Try.ntmps30
  go_wp2_with fail
  refine (twin_ _ _ _ HV.out hl).mono ?_
  rintro e w1 ⟨v1, rfl, o1, up1⟩
  have O1 := Lib.hid o1
  have U1 := Lib.hid up1
  clear o1 up1
  go_wp2_with (at_builtin; refine append_k .u8 38 5 1 Try.underlying38 infoB (by omega) rfl _ _ rfl w.heap.size _ _ xs [128] rfl rfl (O1.out.alloc _) (Rd.new .u8 _ [128] _ _ (by simp) (by simp) (by simp)) (by simp) (by simp; omega) (by have := U1.out.out.size; simp; omega) (U1.out.trans (Up.alloc _ _)) (Nat.le_refl _) ?_)
  intro v2 w2 hown hup
  have O2 := Lib.hid hown
  have U2 := Lib.hid hup
  clear hown hup O1 U1
  go_wp2
  obtain ⟨n, hn⟩ : ∃ n, xs.length = n := ⟨_, rfl⟩
  obtain ⟨Z, hZ⟩ : ∃ Z, (119 - n % 64) % 64 = Z := ⟨_, rfl⟩
  have HN := Lib.hid hn
  have HZ := Lib.hid hZ
  rw [hn] at hl ⊢
  go_loopw [3] (fun s wr => ∃ z : Nat, z ≤ Z ∧ Ow .u8 5 wr w.heap.size s (xs ++ [128] ++ List.replicate z 0) ∧ Up w wr) (fun s _ => n + 1 + Z - slen s)
  case atStart => exact ⟨0, Nat.zero_le _, by simpa using O2.out, U2.out⟩
  case round =>
    obtain ⟨z, hz, ho, hu⟩ := hrel
    obtain ⟨B, cb, rfl⟩ := ho.form
    have HLEN := Lib.hid (show (xs ++ [128] ++ List.replicate z 0).length = n + 1 + z by simp [hn]; omega)
    have HO := Lib.hid ho
    have HU := Lib.hid hu
    obtain ⟨L, hL⟩ : ∃ L, (xs ++ [128] ++ List.replicate z 0).length = L := ⟨_, rfl⟩
    rw [hL] at HO HLEN ⊢
    have hLn : L = n + 1 + z := HLEN.out
    have hz64 : Z < 64 := by omega
    have HLN := Lib.hid hLn
    by_cases hlt : z < Z
    · have e1 : ((L : Int) % 64 != 56) = true := by rw [bne_iff_ne]; omega
      have e2 : ((L : Int) % 64 == 56) = false := by rw [beq_eq_false_iff_ne]; omega
      have hLb : (L : Int) ≤ 1099511627940 := by omega
      have HLT := Lib.hid hlt
      clear ho hu hL hLn hn hZ hlt
      go_wp2_with (at_builtin; refine append_k .u8 38 5 1 Try.underlying38 infoB (by omega) rfl _ _ rfl w.heap.size _ _ (xs ++ [128] ++ List.replicate z 0) [0] rfl rfl (HO.out.alloc _) (Rd.new .u8 _ [0] _ _ (by simp) (by simp) (by simp)) (by simp) (by have := HN.out; simp; omega) (by have := HU.out.out.size; simp; omega) (HU.out.trans (Up.alloc _ _)) (Nat.le_refl _) ?_)
      intro v3 w3 hown hup
      have O3 := Lib.hid (show Ow .u8 5 w3 w.heap.size v3 (xs ++ [128] ++ List.replicate (z + 1) 0) by
        have h := hown
        simp only [List.replicate_succ']
        simpa using h)
      have U3 := Lib.hid hup
      obtain ⟨B3, c3, rfl⟩ := O3.out.form
      have HL3 := Lib.hid (show (xs ++ [128] ++ List.replicate (z + 1) 0).length = n + 1 + (z + 1) by simp [HN.out]; omega)
      clear hown hup
      go_wp2
      exact ⟨⟨z + 1, HLT.out, O3.out, U3.out⟩, by have := HL3.out; have := HLN.out; have := HLT.out; simp only [slen]; omega⟩
    · have hzz : z = Z := by omega
      have e1 : ((L : Int) % 64 != 56) = false := by rw [bne_eq_false_iff_eq]; omega
      have e2 : ((L : Int) % 64 == 56) = true := by rw [beq_iff_eq]; omega
      have HZZ := Lib.hid hzz
      clear ho hu hL hLn hn hZ hlt hzz
      have hn8 : (n : Int) ≤ 1099511627776 := by omega
      have e8 : IntKind.i64.wrap (8 * (n : Int)) = 8 * (n : Int) := by rw [IntKind.wrap_i64]; omega
      rename World => w3
      go_wp2_with fail
      go_loopw [3, 5] (fun s i wr => ∃ (j : Nat), j ≤ 8 ∧ i = .int .i64 (7 - (j : Int)) ∧ Ow .u8 5 wr w.heap.size s (xs ++ [128] ++ List.replicate z 0 ++ (gr ((n : Int) * 8) 8).take j) ∧ Up w wr) (fun _ i _ => (intOf i + 1).toNat)
      case atStart => exact ⟨0, by omega, by simp, by simpa using HO.out, HU.out⟩
      case round =>
        obtain ⟨j, hj, rfl, ho, hu⟩ := hrel
        obtain ⟨B4, c4, rfl⟩ := ho.form
        have HLEN4 := Lib.hid (show (xs ++ [128] ++ List.replicate z 0 ++ (gr ((n : Int) * 8) 8).take j).length = n + 1 + z + j by
          have := HN.out
          simp [gr_len, this]; omega)
        have HO4 := Lib.hid ho
        have HU4 := Lib.hid hu
        obtain ⟨L4, hL4⟩ : ∃ L4, (xs ++ [128] ++ List.replicate z 0 ++ (gr ((n : Int) * 8) 8).take j).length = L4 := ⟨_, rfl⟩
        rw [hL4] at HO4 HLEN4 ⊢
        clear ho hu hL4 HO HU
        by_cases h8 : j < 8
        · have hg := Lib.hid (gr_take ((n : Int) * 8) 8 j h8)
          have hj0 : ¬ ((7 : Int) - (j : Int) < 0) := by omega
          have e7 : IntKind.i64.wrap (8 * (7 - (j : Int))) = 8 * (7 - (j : Int)) := by rw [IntKind.wrap_i64]; omega
          have hE : (8 * (n : Int) / 2 ^ (8 * (7 - j))).tmod 256 % 256 = (n : Int) * 8 / 2 ^ (8 * (8 - 1 - j)) % 256 := by
            have h0 : 0 ≤ 8 * (n : Int) / 2 ^ (8 * (7 - j)) := Int.ediv_nonneg (by omega) (Int.le_of_lt (Int.pow_pos (by decide)))
            rw [Int.tmod_eq_emod_of_nonneg h0, show 8 - 1 - j = 7 - j by omega, Int.mul_comm 8 (n : Int)]
            omega
          have HE := Lib.hid hE
          clear hE
          go_wp2_with (at_builtin; refine append_k .u8 38 5 1 Try.underlying38 infoB (by omega) rfl _ _ rfl w.heap.size _ _ (xs ++ [128] ++ List.replicate z 0 ++ (gr ((n : Int) * 8) 8).take j) [(8 * (n : Int) / 2 ^ (8 * (7 - j))).tmod 256 % 256] rfl rfl (HO4.out.alloc _) (Rd.new .u8 _ [(8 * (n : Int) / 2 ^ (8 * (7 - j))).tmod 256 % 256] _ _ (by simp) (by simp) (by simp)) (by simp) (by have := HN.out; simp [gr_len]; omega) (by have := HU4.out.out.size; simp; omega) (HU4.out.trans (Up.alloc _ _)) (Nat.le_refl _) ?_)
          intro v5 w5 hown hup
          have O5 := Lib.hid (show Ow .u8 5 w5 w.heap.size v5 (xs ++ [128] ++ List.replicate z 0 ++ (gr ((n : Int) * 8) 8).take (j + 1)) by
            rw [hg.out, ← List.append_assoc, ← HE.out]
            simpa using hown)
          have U5 := Lib.hid hup
          clear hown hup
          go_wp2_with fail
          exact ⟨⟨j + 1, by omega, by congr 1; omega, O5.out, U5.out⟩, by simp [intOf]; omega⟩
        · obtain rfl : j = 8 := by omega
          have HOP := Lib.hid (show Ow .u8 5 wr w.heap.size (.slice B4 L4 c4) (pad xs) by
            unfold pad
            rw [HN.out, HZ.out, ← HZZ.out]
            have h := HO4.out
            rwa [List.take_of_length_le (by rw [gr_len]; exact Nat.le_refl _)] at h)
          obtain ⟨M, hM, hM1, hM2⟩ := pad_len xs
          obtain ⟨gm, cm, hform, hgm0, hgm1, hcm, hmc⟩ := HOP.out.block (by omega)
          injection hform with e1 e2 e3
          subst e1 e3
          rw [e2] at HOP HLEN4 ⊢
          rw [hM] at hcm hmc HOP HLEN4 ⊢
          have HMC := Lib.hid hmc
          have HPI := Lib.hid (pad_in HB.out)
          have HPL := Lib.hid hM
          have HM2 := Lib.hid hM2
          have hMx : M ≤ 17179869185 := by have := HN.out; omega
          have hcm' : 64 * M ≤ c4 := by omega
          have HS := Lib.hid (show shaL xs = outB (hs (pad xs) (List.range M)) 8 by unfold shaL; rw [hM, Nat.mul_div_cancel_left _ (by decide)])
          clear hmc hM e2 hM2 hcm HB HV O2 U2
          obtain ⟨ms, hms⟩ : ∃ ms, pad xs = ms := ⟨_, rfl⟩
          rw [hms] at HOP HMC HPI HPL HS
          clear hms
          go_wp2_with fail
          refine (R8.out _).mono ?_
          rintro e0 w6 ⟨v6, rfl, o6, up6⟩
          obtain ⟨gh, ch, hform, hgh0, hgh1, hch, hx6⟩ := o6.block (by decide)
          clear hx6
          rw [show htab.length = 8 from rfl] at hform hch
          subst hform
          have HH := Lib.hid o6
          have U6 := Lib.hid up6
          clear o6 up6
          go_wp2_with fail
          refine (R64.out _).mono ?_
          rintro e0 w7 ⟨v7, rfl, o7, up7⟩
          obtain ⟨gk, ck, hform, hgk0, hgk1, hck, hkc⟩ := o7.block (by decide)
          rw [show ktab.length = 64 from rfl] at hform hck hkc
          subst hform
          have hs6 := U6.out.out.size
          have hs7 := up7.out.size
          have hwb : w.heap.size ≤ wr.heap.size := HU4.out.out.size
          have HI0 := Lib.hid (show Inv w w7 gm gh gk wr.heap.size ch ms M 0 w7 from
            ⟨HH.out.up up7, fun j hj => up7.cell (U6.out.cell (HMC.out j hj)), hkc, (HU4.out.trans U6.out).trans up7, Nat.le_refl _⟩)
          clear o7 up7 hkc HH U6 HMC R8 R64 HOP HLEN4
          have hne1 : gm ≠ gh := by omega
          have hne2 : gk ≠ gh := by omega
          have hlt1 : gm < w7.heap.size := by omega
          have hlt2 : gh < w7.heap.size := by omega
          have hlt3 : gk < w7.heap.size := by omega
          obtain ⟨hb, hhb⟩ : ∃ hb, wr.heap.size = hb := ⟨_, rfl⟩
          rw [hhb] at HI0 hwb hgh0
          clear hhb HU4 hs6 hs7 hgk0 hgm0 hgm1 hgh1 hgk1 HLEN HO4 HN HZ HLN HZZ e1 e2 e8 hn8 hz64 hz hj h8 HM2 hl hM1
          rename World => w9
          go_wp2_with fail
          go_loopw [8] (fun a wr => ∃ t : Nat, t ≤ M ∧ a = .int .i64 (64 * (t : Int)) ∧ Inv w w9 gm gh gk hb ch ms M t wr) (fun a _ => 64 * M - (intOf a).toNat)
          case atStart => exact ⟨0, by omega, rfl, HI0.out⟩
          case round =>
            obtain ⟨t, ht, rfl, hi⟩ := hrel
            have HI := Lib.hid hi
            clear hi HI0
            by_cases htM : t < M
            · have hbs := Lib.hid (fun j (hj : j < 64) => cut64_getD (ps := ms) t j hj)
              have HBI := Lib.hid (cut64_in HPI.out t)
              have HBL := Lib.hid (cut64_len HPL.out htM)
              have hbc := Lib.hid (show ∀ j, j < 64 → wr.cell? ⟨gm, 64 * t + j, none⟩ = some (.int .u8 ((cut64 ms t).getD j 0)) from fun j hj => by rw [hbs.out j hj]; exact HI.out.m (64 * t + j) (by omega))
              have hsn := Lib.hid (show hs ms (List.range (t + 1)) = sum1 (hs ms (List.range t)) (cut64 ms t) by rw [List.range_succ]; exact hs_snoc ms (List.range t) t)
              have he8 := Lib.hid (hs_eight ms (List.range t))
              have hlo := Lib.hid (show gh < wr.heap.size from Nat.lt_of_lt_of_le hlt2 HI.out.s)
              clear hbs
              obtain ⟨bs, hbse⟩ : ∃ bs, cut64 ms t = bs := ⟨_, rfl⟩
              rw [hbse] at HBI HBL hbc hsn
              clear hbse
              have htM' : 64 * (t : Int) < 64 * (M : Int) := by omega
              rename World => wa
              go_wp2_with fail
              go_loopw [9, 10] (fun s i wr => ∃ k : Nat, k ≤ 16 ∧ i = .int .i64 k ∧ Ow .u32 52 wr wa.heap.size s (wl bs k) ∧ Up wa wr) (fun _ i _ => 16 - (intOf i).toNat)
              case atStart => exact ⟨0, by omega, rfl, Ow.nil _ _ _ _, Up.refl _⟩
              case round =>
                obtain ⟨k, hk, rfl, ho, hu⟩ := hrel
                obtain ⟨B9, c9, rfl⟩ := ho.form
                rw [wl_len] at ho ⊢
                have HO9 := Lib.hid ho
                have HU9 := Lib.hid hu
                clear ho hu
                by_cases hk16 : k < 16
                · rename World => wb
                  go_wp2_with fail
                  go_loopw [11, 12] (fun x q wr => ∃ p : Nat, p ≤ 4 ∧ q = .int .i64 p ∧ x = .int .u32 (part bs (4 * k) p) ∧ wr = wb) (fun _ q _ => 4 - (intOf q).toNat)
                  case atStart => exact ⟨0, by omega, rfl, rfl, rfl⟩
                  case round =>
                    obtain ⟨p, hp, rfl, rfl, rfl⟩ := hrel
                    by_cases hp4 : p < 4
                    · as_aux_lemma =>
                        have cb := HU9.out.cell (hbc.out (4 * k + p) (by omega))
                        rw [show 64 * t + (4 * k + p) = 64 * t + 4 * k + p by omega] at cb
                        have hq := HBI.out.getD (4 * k + p)
                        have hpi := part_in HBI.out (4 * k) p hp
                        have hp24 : (256 : Int) ^ p ≤ 16777216 := by
                          have : p = 0 ∨ p = 1 ∨ p = 2 ∨ p = 3 := by omega
                          rcases this with rfl | rfl | rfl | rfl <;> decide
                        have HPS := Lib.hid (show part bs (4 * k) (p + 1) = part bs (4 * k) p * 256 + bs.getD (4 * k + p) 0 from rfl)
                        obtain ⟨P, hP⟩ : ∃ P, part bs (4 * k) p = P := ⟨_, rfl⟩
                        obtain ⟨Q, hQ⟩ : ∃ Q, bs.getD (4 * k + p) 0 = Q := ⟨_, rfl⟩
                        rw [hP] at hpi HPS ⊢
                        rw [hQ] at hq HPS cb
                        clear hP hQ
                        obtain ⟨p0, p1⟩ := hpi
                        obtain ⟨q0, q1⟩ := hq
                        have p2 : P < 16777216 := by omega
                        clear hp24 p1
                        have e4 : IntKind.i64.wrap (4 * (k : Int)) = 4 * (k : Int) := by rw [IntKind.wrap_i64]; omega
                        have e5 : IntKind.i64.wrap (64 * (t : Int) + 4 * (k : Int)) = 64 * (t : Int) + 4 * (k : Int) := by rw [IntKind.wrap_i64]; omega
                        have e6 : IntKind.i64.wrap (64 * (t : Int) + 4 * (k : Int) + (p : Int)) = 64 * (t : Int) + 4 * (k : Int) + (p : Int) := by rw [IntKind.wrap_i64]; omega
                        have e7 : P * 256 % 4294967296 = P * 256 := by omega
                        have e8 : Q % 4294967296 = Q := by omega
                        have e9 : (P * 256 + Q) % 4294967296 = P * 256 + Q := by omega
                        go_wp2_with fail
                        refine ⟨⟨p + 1, by omega, by go_num, by rw [HPS.out], trivial⟩, by simp [intOf]; omega⟩
                    · as_aux_lemma =>
                        obtain rfl : p = 4 := by omega
                        have HW9 := Lib.hid (show wl bs (k + 1) = wl bs k ++ [part bs (4 * k) 4] by rw [wl_succ bs k, if_pos hk16])
                        obtain ⟨P, hP⟩ : ∃ P, part bs (4 * k) 4 = P := ⟨_, rfl⟩
                        rw [hP] at HW9 ⊢
                        clear hP
                        go_wp2_with (at_builtin; refine append_k .u32 61 52 4 Try.underlying61 infoW (by omega) rfl _ _ rfl wa.heap.size _ _ (wl bs k) [P] rfl rfl (HO9.out.alloc _) (Rd.new .u32 _ [P] _ _ (by simp) (by simp) (by simp)) (by simp) (by rw [wl_len]; simp; omega) (by have := HU9.out.out.size; simp; omega) (HU9.out.trans (Up.alloc _ _)) (Nat.le_refl _) ?_)
                        intro v5 w5 hown hup
                        have O5 := Lib.hid (show Ow .u32 52 w5 wa.heap.size v5 (wl bs (k + 1)) by rw [HW9.out]; exact hown)
                        have U5 := Lib.hid hup
                        clear hown hup
                        go_wp2_with fail
                        exact ⟨⟨k + 1, by omega, by go_num, O5.out, U5.out⟩, by simp [intOf]; omega⟩
                · obtain rfl : k = 16 := by omega
                  rw [show ((16 : Nat) : Int) = 16 from rfl]
                  go_wp2_with fail
                  go_loopw [9, 13] (fun s i wr => ∃ r : Nat, r ≤ 48 ∧ i = .int .i64 ((r : Int) + 16) ∧ Ow .u32 52 wr wa.heap.size s (wl bs (r + 16)) ∧ Up wa wr) (fun _ i _ => 64 - (intOf i).toNat)
                  case atStart => exact ⟨0, by omega, rfl, HO9.out, HU9.out⟩
                  case round =>
                    obtain ⟨r, hr, rfl, ho, hu⟩ := hrel
                    obtain ⟨g9, d9, rfl, hg90, hg91, hd9, hcl⟩ := ho.block (by rw [wl_len]; omega)
                    rw [wl_len] at ho hd9 hcl ⊢
                    have HO13 := Lib.hid ho
                    have HU13 := Lib.hid hu
                    clear ho hu HO9 HU9
                    by_cases hr48 : r < 48
                    · as_aux_lemma =>
                        have c0 := hcl r (by omega)
                        have c1 := hcl (r + 1) (by omega)
                        have c9 := hcl (r + 9) (by omega)
                        have c14 := hcl (r + 14) (by omega)
                        have k1 := wl_u32 HBI.out (r + 16) (r + 1) (by omega)
                        have k14 := wl_u32 HBI.out (r + 16) (r + 14) (by omega)
                        have hlast : wl bs (r + 16 + 1) = wl bs (r + 16) ++ [((wl bs (r + 16)).getD r 0 + s0 ((wl bs (r + 16)).getD (r + 1) 0) + (wl bs (r + 16)).getD (r + 9) 0 + s1 ((wl bs (r + 16)).getD (r + 14) 0)) % 4294967296] := by
                          rw [wl_succ bs (r + 16), if_neg (by omega), show r + 16 - 16 = r by omega, show r + 16 - 15 = r + 1 by omega, show r + 16 - 7 = r + 9 by omega, show r + 16 - 2 = r + 14 by omega]
                        obtain ⟨x0, h0⟩ : ∃ x0, (wl bs (r + 16)).getD r 0 = x0 := ⟨_, rfl⟩
                        obtain ⟨x1, h1⟩ : ∃ x1, (wl bs (r + 16)).getD (r + 1) 0 = x1 := ⟨_, rfl⟩
                        obtain ⟨x9, h9⟩ : ∃ x9, (wl bs (r + 16)).getD (r + 9) 0 = x9 := ⟨_, rfl⟩
                        obtain ⟨x14, h14⟩ : ∃ x14, (wl bs (r + 16)).getD (r + 14) 0 = x14 := ⟨_, rfl⟩
                        rw [h0, h1, h9, h14] at hlast
                        rw [h0] at c0
                        rw [h1] at c1 k1
                        rw [h9] at c9
                        rw [h14] at c14 k14
                        have HX0e := Lib.hid h0
                        have HX9e := Lib.hid h9
                        clear h0 h1 h9 h14
                        have HL := Lib.hid hlast
                        have K1 := Lib.hid k1
                        have K14 := Lib.hid k14
                        clear hlast k1 k14 hcl
                        have hd2 : decide ((r : Int) + 16 < 64) = true := decide_eq_true (by omega)
                        have z15 : IntKind.i64.wrap ((r : Int) + 16 - 15) = (r : Int) + 1 := by rw [IntWalk.i64_left]; unfold wrap64; omega
                        have z2 : IntKind.i64.wrap ((r : Int) + 16 - 2) = (r : Int) + 14 := by rw [IntWalk.i64_left]; unfold wrap64; omega
                        have z16 : IntKind.i64.wrap ((r : Int) + 16 - 16) = (r : Int) := by rw [IntWalk.i64_left]; unfold wrap64; omega
                        have z7 : IntKind.i64.wrap ((r : Int) + 16 - 7) = (r : Int) + 9 := by rw [IntWalk.i64_left]; unfold wrap64; omega
                        have hr1 : (0 : Int) ≤ (r : Int) := by omega
                        have hr2 : (r : Int) < 48 := by omega
                        rename World => w2c
                        go_wp2_with fail
                        go_quiet (fail)
                        generalize hwq : World.drewN w2c _ = wz
                        have hq : Up w2c wz := by rw [← hwq]; exact Up.drewN _ _
                        have d0 := hq.cell c0
                        have d9' := hq.cell c9
                        have HZ13 := Lib.hid (HO13.out.up hq)
                        have HUz := Lib.hid (HU13.out.trans hq)
                        clear hwq hq c0 c9 c1 c14 HO13 HU13
                        have HUc := Lib.hid (Up.drew wz)
                        go_wp2_with fail
                        obtain ⟨L9, hL9⟩ : ∃ L9, r + 16 = L9 := ⟨_, rfl⟩
                        rw [hL9] at HZ13 HL HX0e HX9e ⊢
                        have hA : (r : Int) < (L9 : Int) := by omega
                        have hB : (r : Int) + 9 < (L9 : Int) := by omega
                        have hC : (0 : Int) ≤ (r : Int) + 9 := by omega
                        have zr : IntKind.i64.wrap (r : Int) = (r : Int) := by rw [IntKind.wrap_i64]; omega
                        have zr9 : IntKind.i64.wrap ((r : Int) + 9) = (r : Int) + 9 := by rw [IntKind.wrap_i64]; omega
                        have hT : ((r : Int) + 9).toNat = r + 9 := by omega
                        have HT := Lib.hid hT
                        have d9t : wz.cell? ⟨g9, ((r : Int) + 9).toNat, none⟩ = some (.int .u32 x9) := by rw [hT]; exact d9'
                        have HLL := Lib.hid hL9
                        clear hL9 hT d9'
                        go_region_held3 (fun w' => Up wa w' ∧ w'.cell? ⟨g9, r, none⟩ = some (.int .u32 x0) ∧ w'.cell? ⟨g9, ((r : Int) + 9).toNat, none⟩ = some (.int .u32 x9))
                          (first
                            | with_reducible exact ⟨HUz.out.trans (Up.drew _), (Up.drew _).cell d0, (Up.drew _).cell d9t⟩
                            | with_reducible exact HSS.out
                            | with_reducible exact ⟨HUz.out.trans HUc.out, HUc.out.cell d0, HUc.out.cell d9t⟩
                            | (with_reducible refine hold2 (Up.alloc _ _) ?_; assumption))
                          (first
                            | (go_at_call 51
                               refine (turnedq_ _ _ _ ?_ ?_ ?_).mono ?_
                               (first | exact K1.out | exact K14.out)
                               (omega)
                               (omega)
                               rintro e0 w4 ⟨rfl, m4, hm4⟩
                               have HUn := Lib.hid (HUc.out.trans (show Up _ w4 by rw [hm4]; exact Up.drewN _ _))
                               clear HUc hm4
                               have HUc := HUn
                               clear HUn)
                            | (refine step_append_keep .u32 61 52 4 Try.underlying61 infoW ?_ rfl _ _ rfl wa.heap.size g9 _ _ _ (wl bs L9) [_] rfl rfl (HZ13.out.up (HUc.out.trans (Up.alloc _ _))) ?_ (Rd.new .u32 _ [_] _ _ ?_ ?_ ?_) ?_ ?_ ?_ (HUz.out.trans (HUc.out.trans (Up.alloc _ _))) (Nat.le_refl _) ?_
                               (omega)
                               (rw [wl_len])
                               (simp)
                               (simp)
                               (simp)
                               (simp)
                               (have := HLL.out; rw [wl_len]; simp; omega)
                               (exact (HUz.out.trans (HUc.out.trans (Up.alloc _ _))).out.size)
                               intro v5 w5 o5 hu5 hk5
                               have HO5 := Lib.hid o5
                               have HUP5 := Lib.hid hu5
                               have HSS := Lib.hid (show Up wa w5 ∧ w5.cell? ⟨g9, r, none⟩ = some (.int .u32 x0) ∧ w5.cell? ⟨g9, ((r : Int) + 9).toNat, none⟩ = some (.int .u32 x9) from
                                 ⟨hu5, by rw [← HX0e.out]; exact hk5 r (by omega), by rw [HT.out, ← HX9e.out]; exact hk5 (r + 9) (by omega)⟩)
                               clear o5 hu5 hk5))
                        rename_i hHd
                        clear hHd
                        have HE5 := Lib.hid (show Ow .u32 52 w5 wa.heap.size v5 (wl bs (L9 + 1)) by rw [HL.out]; simpa [s0, s1, IntKind.wrap_u32] using HO5.out)
                        clear HO5
                        go_wp2_with fail
                        go_roundw
                        case rel =>
                          refine ⟨r + 1, by omega, ?_, ?_, HUP5.out⟩
                          · congr 1 <;> omega
                          · rw [show r + 1 + 16 = L9 + 1 by have := HLL.out; omega]; exact HE5.out
                        case measure => simp [intOf]; omega
                    · obtain rfl : r = 48 := by omega
                      obtain ⟨a0, a1, a2, a3, a4, a5, a6, a7, hh8, hau⟩ := he8.out
                      have HI9 := Lib.hid (HI.out.up HU13.out)
                      have hwc := Lib.hid (show ∀ j, j < 64 → wr.cell? ⟨g9, j, none⟩ = some (.int .u32 ((wl bs 64).getD j 0)) from fun j hj => hcl j (by omega))
                      clear hcl HO13
                      have HHR := Lib.hid (show Rd .u32 wr (.slice (some ⟨gh, 0, none⟩) 8 ch) [a0, a1, a2, a3, a4, a5, a6, a7] by rw [← hh8]; exact HI9.out.h.rd)
                      have HH8 := Lib.hid hh8
                      have HAU := Lib.hid hau
                      have hsa := HU13.out.out.size
                      clear hh8 hau he8
                      rename World => wd
                      go_wp2_with (at_builtin; refine append_k .u32 61 52 4 Try.underlying61 infoW (by omega) rfl _ _ rfl wd.heap.size _ _ [] [a0, a1, a2, a3, a4, a5, a6, a7] rfl rfl (Ow.nil _ _ _ _) HHR.out (by simp) (by simp) (Nat.le_refl _) (Up.refl _) (Nat.le_refl _) ?_)
                      intro v5 w5 hown hup
                      obtain ⟨b5, c5, hv5, hb50, hb51, hc5, hx5⟩ := hown.block (by simp)
                      have h85 : ([a0, a1, a2, a3, a4, a5, a6, a7] : List Int).length = 8 := rfl
                      rw [h85] at hv5 hc5 hx5
                      subst hv5
                      have HS5 := Lib.hid (show Sl8 wa.heap.size w5 (.slice (some ⟨b5, 0, none⟩) 8 c5) [a0, a1, a2, a3, a4, a5, a6, a7] from ⟨b5, c5, rfl, by omega, hb51, hc5, hx5⟩)
                      have HI5 := Lib.hid (HI9.out.up hup)
                      have hwc5 := Lib.hid (fun j hj => hup.cell (hwc.out j hj))
                      have hs5 : wa.heap.size ≤ w5.heap.size := by have := hup.out.size; omega
                      clear hown hup hx5 h85 HI9 hwc HHR HI HU13 hbc hb50 hb51
                      go_wp2_with fail
                      obtain ⟨ww64, hw64⟩ : ∃ ws, wl bs 64 = ws := ⟨_, rfl⟩
                      have HW64 := Lib.hid hw64
                      rw [hw64] at hwc5
                      clear hw64
                      go_loopw [16, 17] (fun s i wr => ∃ r : Nat, r ≤ 64 ∧ i = .int .i64 r ∧ Sl8 wa.heap.size wr s (run [a0, a1, a2, a3, a4, a5, a6, a7] ktab ww64 r) ∧ Up w5 wr) (fun _ i _ => 64 - (intOf i).toNat)
                      case atStart => exact ⟨0, by omega, rfl, HS5.out, Up.refl _⟩
                      case round =>
                        obtain ⟨r, hr, rfl, ⟨b16, c16, rfl, hb0, hb1, hcc, hcl⟩, hu⟩ := hrel
                        have HU16 := Lib.hid hu
                        clear hu HS5
                        by_cases hr64 : r < 64
                        · obtain ⟨x0, x1, x2, x3, x4, x5, x6, x7, hx, hxu⟩ := run_eight ktab ww64 r HAU.out
                          have hs := show run [a0, a1, a2, a3, a4, a5, a6, a7] ktab ww64 (r + 1) = step (run [a0, a1, a2, a3, a4, a5, a6, a7] ktab ww64 r) (ktab.getD r 0) (ww64.getD r 0) from rfl
                          have c5k := HU16.out.cell (hwc5.out r hr64)
                          have c6k := HU16.out.cell (HI5.out.k r hr64)
                          obtain ⟨kk, hkk⟩ : ∃ kk, ktab.getD r 0 = kk := ⟨_, rfl⟩
                          obtain ⟨ww, hww⟩ : ∃ ww, ww64.getD r 0 = ww := ⟨_, rfl⟩
                          rw [hkk] at c6k hs
                          rw [hww] at c5k hs
                          rw [hx] at hs hcl
                          have c70 := hcl 0 (by omega)
                          have c71 := hcl 1 (by omega)
                          have c72 := hcl 2 (by omega)
                          have c73 := hcl 3 (by omega)
                          have c74 := hcl 4 (by omega)
                          have c75 := hcl 5 (by omega)
                          have c76 := hcl 6 (by omega)
                          have c77 := hcl 7 (by omega)
                          simp only [List.getD_cons_zero, List.getD_cons_succ] at c70 c71 c72 c73 c74 c75 c76 c77
                          have HSx := Lib.hid hs
                          have HX0 := Lib.hid (hxu x0 (by simp))
                          have HX4 := Lib.hid (hxu x4 (by simp))
                          clear hs hx hxu hkk hww hcl
                          have hk1 : (0 : Int) ≤ (r : Int) := by omega
                          have hk2 : (r : Int) < 64 := by omega
                          rename World => we
                          go_wp2_with fail
                          go_quiet (fail)
                          generalize hwq : World.drewN we _ = wq
                          have hq : Up we wq := by rw [← hwq]; exact Up.drewN _ _
                          have d70 := hq.cell c70
                          have d71 := hq.cell c71
                          have d72 := hq.cell c72
                          have d73 := hq.cell c73
                          have d74 := hq.cell c74
                          have d75 := hq.cell c75
                          have d76 := hq.cell c76
                          have d77 := hq.cell c77
                          have d5 := hq.cell c5k
                          have d6 := hq.cell c6k
                          have HQ := Lib.hid (HU16.out.trans hq)
                          clear hwq hq c70 c71 c72 c73 c74 c75 c76 c77 c5k c6k HU16
                          go_wp2_with fail
                          go_quiet ((go_at_call 51; exact Calls.quiet_of (turnedq_ _ _ _ HX4.out (by omega) (by omega))))
                          generalize hwq : World.drewN wq _ = wz
                          have hz : Up wq wz := by rw [← hwq]; exact Up.drewN _ _
                          have c70 := hz.cell d70
                          have c71 := hz.cell d71
                          have c72 := hz.cell d72
                          have c73 := hz.cell d73
                          have c74 := hz.cell d74
                          have c75 := hz.cell d75
                          have c76 := hz.cell d76
                          have c77 := hz.cell d77
                          have HZ := Lib.hid (HQ.out.trans hz)
                          clear hwq hz d70 d71 d72 d73 d74 d75 d76 d77 d5 d6 HQ
                          rw [show (if IntKind.u32.signed = true then (-1 : Int) else IntKind.u32.max) = IntKind.u32.max from rfl]
                          obtain ⟨y1, hy1⟩ : ∃ y, bits .xor .u32 (bits .xor .u32 (rot 6 x4) (rot 11 x4)) (rot 25 x4) = y := ⟨_, rfl⟩
                          obtain ⟨y2, hy2⟩ : ∃ y, bits .xor .u32 (bits .and .u32 x4 x5) (bits .and .u32 (bits .xor .u32 IntKind.u32.max x4) x6) = y := ⟨_, rfl⟩
                          have e1 : t1 [x0, x1, x2, x3, x4, x5, x6, x7] kk ww = (x7 + bits .xor .u32 (bits .xor .u32 (rot 6 x4) (rot 11 x4)) (rot 25 x4) + bits .xor .u32 (bits .and .u32 x4 x5) (bits .and .u32 (bits .xor .u32 IntKind.u32.max x4) x6) + kk + ww) % 4294967296 := rfl
                          have HS1 := Lib.hid (show run [a0, a1, a2, a3, a4, a5, a6, a7] ktab ww64 (r + 1) = [add (t1 [x0, x1, x2, x3, x4, x5, x6, x7] kk ww) (t2 [x0, x1, x2, x3, x4, x5, x6, x7]), x0, x1, x2, add x3 (t1 [x0, x1, x2, x3, x4, x5, x6, x7] kk ww), x4, x5, x6] from HSx.out)
                          rw [e1] at HS1
                          clear e1 HSx
                          rw [hy1, hy2] at HS1 ⊢
                          rw [show (x7 + y1 + y2 + kk + ww) % 4294967296 = ((x7 + y1 + y2 + kk) % 4294967296 + ww) % 4294967296 by omega] at HS1
                          obtain ⟨T1, hT1⟩ : ∃ T, ((x7 + y1 + y2 + kk) % 4294967296 + ww) % 4294967296 = T := ⟨_, rfl⟩
                          rw [hT1] at HS1 ⊢
                          clear hy1 hy2 hT1
                          go_wp2_with fail
                          go_quiet ((go_at_call 51; exact Calls.quiet_of (turnedq_ _ _ _ HX0.out (by omega) (by omega))))
                          generalize hwq : World.drewN wz _ = wy
                          have hy : Up wz wy := by rw [← hwq]; exact Up.drewN _ _
                          have d70 := hy.cell c70
                          have d71 := hy.cell c71
                          have d72 := hy.cell c72
                          have d73 := hy.cell c73
                          have d74 := hy.cell c74
                          have d75 := hy.cell c75
                          have d76 := hy.cell c76
                          have HY := Lib.hid (HZ.out.trans hy)
                          clear hwq hy c70 c71 c72 c73 c74 c75 c76 c77 HZ
                          have e2 : t2 [x0, x1, x2, x3, x4, x5, x6, x7] = (bits .xor .u32 (bits .xor .u32 (rot 2 x0) (rot 13 x0)) (rot 22 x0) + bits .xor .u32 (bits .xor .u32 (bits .and .u32 x0 x1) (bits .and .u32 x0 x2)) (bits .and .u32 x1 x2)) % 4294967296 := rfl
                          rw [← e2]
                          clear e2
                          have HS2 := HS1
                          clear HS1
                          generalize t2 [x0, x1, x2, x3, x4, x5, x6, x7] = T2 at HS2 ⊢
                          go_wp2_with fail
                          go_region_held3 (fun w' => Up w5 w' ∧ w'.cell? ⟨b16, 0, none⟩ = some (.int .u32 x0) ∧ w'.cell? ⟨b16, 1, none⟩ = some (.int .u32 x1) ∧ w'.cell? ⟨b16, 2, none⟩ = some (.int .u32 x2) ∧ w'.cell? ⟨b16, 3, none⟩ = some (.int .u32 x3) ∧ w'.cell? ⟨b16, 4, none⟩ = some (.int .u32 x4) ∧ w'.cell? ⟨b16, 5, none⟩ = some (.int .u32 x5) ∧ w'.cell? ⟨b16, 6, none⟩ = some (.int .u32 x6))
                            (first
                              | with_reducible exact hold7 (Up.drew _) ⟨HY.out, d70, d71, d72, d73, d74, d75, d76⟩
                              | with_reducible exact hold7 ((Up.alloc _ _).trans (Up.drew _)) ⟨HY.out, d70, d71, d72, d73, d74, d75, d76⟩)
                            (first | fail)
                          rename_i hHd
                          have HF := Lib.hid hHd.1
                          clear hHd
                          go_wp2_with fail
                          refine ⟨⟨r + 1, by omega, by go_num, ⟨wy.heap.size, 8, rfl, ?_, ?_, Nat.le_refl _, ?_⟩, HF.out⟩, by simp [intOf]; omega⟩
                          · have := HY.out.out.size; omega
                          · simp
                          · intro j hj
                            rw [HS2.out]
                            have hj8 : j = 0 ∨ j = 1 ∨ j = 2 ∨ j = 3 ∨ j = 4 ∨ j = 5 ∨ j = 6 ∨ j = 7 := by omega
                            rcases hj8 with rfl | rfl | rfl | rfl | rfl | rfl | rfl | rfl <;> simp [add, IntKind.wrap_u32]
                        · obtain rfl : r = 64 := by omega
                          rw [show ((64 : Nat) : Int) = 64 from rfl]
                          obtain ⟨R, hR⟩ : ∃ R, run [a0, a1, a2, a3, a4, a5, a6, a7] ktab ww64 64 = R := ⟨_, rfl⟩
                          have HR8 := Lib.hid (show R.length = 8 by
                            obtain ⟨x0, x1, x2, x3, x4, x5, x6, x7, hx, _⟩ := run_eight ktab ww64 64 HAU.out
                            rw [← hR, hx]; rfl)
                          have HRR := Lib.hid hR
                          rw [hR] at hcl
                          have HCL := Lib.hid hcl
                          have HI6 := Lib.hid (HI5.out.up HU16.out)
                          have hbg : b16 ≠ gh := by have := hlo.out; omega
                          clear hR hcl HI5 HU16 hwc5
                          rename World => wf
                          go_wp2_with fail
                          go_loopw [23] (fun i wr => ∃ (k : Nat) (ys : List Int), k ≤ 8 ∧ i = .int .i64 k ∧ ys.length = 8 ∧ (∀ j, j < 8 → ys.getD j 0 = if j < k then add ([a0, a1, a2, a3, a4, a5, a6, a7].getD j 0) (R.getD j 0) else [a0, a1, a2, a3, a4, a5, a6, a7].getD j 0) ∧
                            Ow .u32 52 wr hb (.slice (some ⟨gh, 0, none⟩) 8 ch) ys ∧ (∀ j, j < 64 * M → wr.cell? ⟨gm, j, none⟩ = some (.int .u8 (ms.getD j 0))) ∧ (∀ j, j < 64 → wr.cell? ⟨gk, j, none⟩ = some (.int .u32 (ktab.getD j 0))) ∧
                            (∀ j, j < 8 → wr.cell? ⟨b16, j, none⟩ = some (.int .u32 (R.getD j 0))) ∧ Up w wr ∧ w9.heap.size ≤ wr.heap.size) (fun i _ => 8 - (intOf i).toNat)
                          case atStart => exact ⟨0, _, by omega, rfl, rfl, fun j hj => by rw [if_neg (by omega)], by rw [← HH8.out]; exact HI6.out.h, HI6.out.m, HI6.out.k, HCL.out, HI6.out.u, HI6.out.s⟩
                          case round =>
                            obtain ⟨k, ys, hk8, rfl, hy8, hys, r2, rm, rk, r7, ru, rs⟩ := hrel
                            have Q2 := Lib.hid r2
                            have QM := Lib.hid rm
                            have QK := Lib.hid rk
                            have Q7 := Lib.hid r7
                            have QU := Lib.hid ru
                            have QS := Lib.hid rs
                            have QY := Lib.hid hys
                            have QL := Lib.hid hy8
                            clear r2 rm rk r7 ru rs hys hy8 HI6 HCL
                            by_cases hlt2 : k < 8
                            · as_aux_lemma =>
                                have c2 := Q2.out.cellAt' QL.out k hlt2
                                have f2 := Q2.out.frozenAt' QL.out k
                                have c7 := Q7.out k hlt2
                                have hyk := QY.out k hlt2
                                rw [if_neg (by omega)] at hyk
                                rw [hyk] at c2
                                obtain ⟨p, hp⟩ : ∃ p, [a0, a1, a2, a3, a4, a5, a6, a7].getD k 0 = p := ⟨_, rfl⟩
                                obtain ⟨q, hq⟩ : ∃ q, R.getD k 0 = q := ⟨_, rfl⟩
                                rw [hp] at c2
                                rw [hq] at c7
                                have HPx := Lib.hid hp
                                have HQx := Lib.hid hq
                                clear hyk hp hq
                                have hk1 : (0 : Int) ≤ (k : Int) := by omega
                                have hk2 : (k : Int) < 8 := by omega
                                rename World => wg
                                go_wp2_with fail
                                go_region
                                all_goals go_wp2
                                refine ⟨⟨k + 1, ys.set k (add p q), by omega, by go_num, by simp [QL.out], ?_, ?_, ?_, ?_, ?_, ?_, ?_⟩, by simp [intOf]; omega⟩
                                · intro j hj
                                  rw [List.getD_eq_getElem?_getD, List.getElem?_set]
                                  by_cases e : k = j
                                  · subst e
                                    rw [if_pos rfl, if_pos (by rw [QL.out]; omega), if_pos (by omega), HPx.out, HQx.out]; rfl
                                  · rw [if_neg e, ← List.getD_eq_getElem?_getD, QY.out j hj]
                                    by_cases e2 : j < k
                                    · rw [if_pos e2, if_pos (by omega)]
                                    · rw [if_neg e2, if_neg (by omega)]
                                · exact (Q2.out.stored' QL.out k (add p q)).up (Up.drew _)
                                · exact fun j hj => (Up.drew _).cell (other_cell (QM.out j hj) hne1)
                                · exact fun j hj => (Up.drew _).cell (other_cell (QK.out j hj) hne2)
                                · exact fun j hj => (Up.drew _).cell (other_cell (Q7.out j hj) hbg)
                                · exact (QU.out.setNew _ _ (Nat.le_trans hwb hgh0)).trans (Up.drew _)
                                · have := QS.out; simp; omega
                            · as_aux_lemma =>
                                obtain rfl : k = 8 := by omega
                                have hys := zip_of rfl HR8.out QL.out QY.out
                                have HF := Lib.hid (Inv.next (h0 := hsn.out) HH8.out HW64.out HRR.out hys Q2.out QM.out QK.out QU.out QS.out)
                                clear hys
                                have e64 : IntKind.i64.wrap (64 * (t : Int) + 64) = 64 * (t : Int) + 64 := by rw [IntKind.wrap_i64]; omega
                                go_upto_region 13 with fail
                                generalize hQ2 : Exit.then _ _ = Q2
                                go_wp2_with fail
                                subst hQ2
                                show _ ∧ _
                                go_roundw
                                case rel => exact ⟨t + 1, by omega, by congr 1 <;> omega, HF.out⟩
                                case measure => simp [intOf]; omega
            · as_aux_lemma =>
                obtain rfl : t = M := by omega
                have hnlt : ¬ (64 * (t : Int) < 64 * (t : Int)) := by omega
                obtain ⟨H, hH⟩ : ∃ H, hs ms (List.range t) = H := ⟨_, rfl⟩
                have HE8 := Lib.hid (hs_eight ms (List.range t))
                have HHO := Lib.hid HI.out.h
                have HUw := Lib.hid HI.out.u
                rw [hH] at HE8 HHO HS
                have H8 := Lib.hid HE8.out.len
                have hcl := Lib.hid (fun j hj => HHO.out.cellAt' H8.out j hj)
                have hau := Lib.hid (show AllU H by obtain ⟨_, _, _, _, _, _, _, _, rfl, h⟩ := HE8.out; exact h)
                clear hH HE8 HHO HI
                rename World => wo
                go_wp2_with fail
                go_loopw [24, 25] (fun s i wr => ∃ k : Nat, k ≤ 8 ∧ i = .int .i64 k ∧ Ow .u8 5 wr wo.heap.size s (outB H k) ∧ Up wo wr) (fun _ i _ => 8 - (intOf i).toNat)
                case atStart => exact ⟨0, by omega, rfl, Ow.nil _ _ _ _, Up.refl _⟩
                case round =>
                  obtain ⟨k, hk, rfl, ho, hu⟩ := hrel
                  have HO1 := Lib.hid ho
                  have HUo := Lib.hid hu
                  clear ho hu
                  by_cases hk8 : k < 8
                  · rename World => wp
                    have hk1 : (0 : Int) ≤ (k : Int) := by omega
                    have hk2 : (k : Int) < 8 := by omega
                    go_wp2_with fail
                    go_loopw [24, 26] (fun s q wr => ∃ j : Nat, j ≤ 4 ∧ q = .int .i64 (3 - (j : Int)) ∧ Ow .u8 5 wr wo.heap.size s (outB H k ++ (gr (H.getD k 0) 4).take j) ∧ Up wo wr) (fun _ q _ => (intOf q + 1).toNat)
                    case atStart => exact ⟨0, by omega, by simp, by simpa using HO1.out, HUo.out⟩
                    case round =>
                      obtain ⟨j, hj, rfl, ho, hu⟩ := hrel
                      have HO2 := Lib.hid ho
                      have HU2 := Lib.hid hu
                      clear ho hu HO1 HUo
                      by_cases hj4 : j < 4
                      · have c2 := HU2.out.cell (hcl.out k hk8)
                        have hgt := Lib.hid (gr_take (H.getD k 0) 4 j hj4)
                        have hxu := hau.out (H.getD k 0) (by rw [List.getD_eq_getElem?_getD, List.getElem?_eq_getElem (by rw [H8.out]; exact hk8)]; exact List.getElem_mem _)
                        have HOL := Lib.hid (show (outB H k ++ (gr (H.getD k 0) 4).take j).length ≤ 100 by rw [List.length_append, outB_len H k (by rw [H8.out]; omega), List.length_take, gr_len]; omega)
                        obtain ⟨X, hX⟩ : ∃ X, H.getD k 0 = X := ⟨_, rfl⟩
                        rw [hX] at c2 hgt hxu HO2 HOL
                        have HXe := Lib.hid hX
                        clear hX
                        obtain ⟨hx0, hx1⟩ := hxu
                        have hj0 : ¬ ((3 : Int) - (j : Int) < 0) := by omega
                        have hj1 : (0 : Int) ≤ 3 - (j : Int) := by omega
                        have e7 : IntKind.i64.wrap (8 * (3 - (j : Int))) = 8 * (3 - (j : Int)) := by rw [IntKind.wrap_i64]; omega
                        go_wp2_with (at_builtin; refine append_k .u8 38 5 1 Try.underlying38 infoB (by omega) rfl _ _ rfl wo.heap.size _ _ (outB H k ++ (gr X 4).take j) [X / 2 ^ (8 * (3 - j)) % 256] rfl rfl (HO2.out.alloc _) (Rd.new .u8 _ [X / 2 ^ (8 * (3 - j)) % 256] _ _ (by simp) (by simp) (by simp)) (by simp) (by have := HOL.out; rw [List.length_singleton]; omega) (by have := HU2.out.out.size; simp; omega) (HU2.out.trans (Up.alloc _ _)) (Nat.le_refl _) ?_)
                        intro v5 w5 hown hup
                        have O5 := Lib.hid (show Ow .u8 5 w5 wo.heap.size v5 (outB H k ++ (gr (H.getD k 0) 4).take (j + 1)) by
                          rw [HXe.out, hgt.out, ← List.append_assoc, show 4 - 1 - j = 3 - j by omega]
                          simpa using hown)
                        have U5 := Lib.hid hup
                        clear hown hup
                        go_wp2_with fail
                        go_roundw
                        case rel =>
                          exact ⟨j + 1, by omega, by congr 1; omega, O5.out, U5.out⟩
                        case measure => simp [intOf]; omega
                      · obtain rfl : j = 4 := by omega
                        have HO3 := Lib.hid (show Ow .u8 5 wr wo.heap.size u24 (outB H (k + 1)) by
                          rw [outB_succ H k (by rw [H8.out]; exact hk8)]
                          have h := HO2.out
                          rwa [List.take_of_length_le (by rw [gr_len]; exact Nat.le_refl _)] at h)
                        go_wp2_with fail
                        go_roundw
                        case rel => exact ⟨k + 1, by omega, by go_num, HO3.out, HU2.out⟩
                        case measure => simp [intOf]; omega
                  · obtain rfl : k = 8 := by omega
                    go_wp2_with fail
                    go_ret
                    refine ⟨_, rfl, ?_, HUw.out.trans HUo.out⟩
                    rw [HS.out]
                    have h1 := HO1.out
                    have hwW := HUw.out.out.size
                    exact ⟨h1.1, h1.2.imp id (fun ⟨g, cap, cur, e, hb, r⟩ => ⟨g, cap, cur, e, Nat.le_trans hwW hb, r⟩)⟩

end Go.Proofs.Yteeibpeefhaoiaa
