/- SHA-256: the sixty-four words of a chunk (sha.words), the table, the first sum. No condition beside that a chunk has 64 bytes. -/
import Derived.Test.YteeibpeefhaoiaaShaC
namespace Go.Proofs.Yteeibpeefhaoiaa
open Go.RowKit
set_option linter.unusedVariables false

theorem info65d : (Try.prog.info? 65).map (·.size) = some 64 := by kernel_rfl
def AllB (xs : List Int) : Prop := ∀ x ∈ xs, 0 ≤ x ∧ x < 256
theorem AllB.getD {xs : List Int} (h : AllB xs) (k : Nat) : 0 ≤ xs.getD k 0 ∧ xs.getD k 0 < 256 := by
  by_cases hk : k < xs.length
  · rw [List.getD_eq_getElem?_getD, List.getElem?_eq_getElem hk]; exact h _ (List.getElem_mem hk)
  · rw [List.getD_eq_getElem?_getD, List.getElem?_eq_none (by omega)]; simp

/-- The first m bytes from a place on, as a number, the greatest first. -/
def part (bs : List Int) (at_ : Nat) : Nat → Int
  | 0 => 0
  | m + 1 => part bs at_ m * 256 + bs.getD (at_ + m) 0
theorem part_in {bs : List Int} (h : AllB bs) (at_ : Nat) : ∀ m : Nat, m ≤ 4 → 0 ≤ part bs at_ m ∧ part bs at_ m < 256 ^ m
  | 0, _ => by simp [part]
  | m + 1, hm => by
    have ih := part_in h at_ m (by omega)
    have hb := h.getD (at_ + m)
    simp only [part]
    rw [Int.pow_succ]
    omega
/-- The first words of a chunk. -/
def wl (bs : List Int) : Nat → List Int
  | 0 => []
  | k + 1 => wl bs k ++ [if k < 16 then part bs (4 * k) 4 else ((wl bs k).getD (k - 16) 0 + s0 ((wl bs k).getD (k - 15) 0) + (wl bs k).getD (k - 7) 0 + s1 ((wl bs k).getD (k - 2) 0)) % 4294967296]
theorem wl_len (bs : List Int) : ∀ k, (wl bs k).length = k
  | 0 => rfl
  | k + 1 => by simp [wl, wl_len bs k]
theorem wl_pre (bs : List Int) (k j : Nat) (h : j < k) : (wl bs (k + 1)).getD j 0 = (wl bs k).getD j 0 := by
  simp only [wl]
  rw [List.getD_eq_getElem?_getD, List.getElem?_append_left (by rw [wl_len]; exact h), ← List.getD_eq_getElem?_getD]
theorem wl_last (bs : List Int) (k : Nat) : (wl bs (k + 1)).getD k 0 = if k < 16 then part bs (4 * k) 4 else ((wl bs k).getD (k - 16) 0 + s0 ((wl bs k).getD (k - 15) 0) + (wl bs k).getD (k - 7) 0 + s1 ((wl bs k).getD (k - 2) 0)) % 4294967296 := by
  simp only [wl]
  rw [List.getD_eq_getElem?_getD, List.getElem?_append_right (by rw [wl_len]; exact Nat.le_refl _), wl_len]
  simp
theorem wl_u32 {bs : List Int} (h : AllB bs) : ∀ k j, j < k → U32 ((wl bs k).getD j 0)
  | 0, j, hj => by omega
  | k + 1, j, hj => by
    by_cases e : j < k
    · rw [wl_pre bs k j e]; exact wl_u32 h k j e
    · obtain rfl : j = k := by omega
      rw [wl_last]
      split
      · have := part_in h (4 * j) 4 (by omega); unfold U32; omega
      · unfold U32; omega

theorem heap_new (w : World) (o : Obj) : (w.alloc o).heap[w.heap.size]? = some o := by
  show (w.heap.push o)[w.heap.size]? = some o
  simp

def ktab : List Int := [0x428a2f98, 0x71374491, 0xb5c0fbcf, 0xe9b5dba5, 0x3956c25b, 0x59f111f1, 0x923f82a4, 0xab1c5ed5,
  0xd807aa98, 0x12835b01, 0x243185be, 0x550c7dc3, 0x72be5d74, 0x80deb1fe, 0x9bdc06a7, 0xc19bf174,
  0xe49b69c1, 0xefbe4786, 0x0fc19dc6, 0x240ca1cc, 0x2de92c6f, 0x4a7484aa, 0x5cb0a9dc, 0x76f988da,
  0x983e5152, 0xa831c66d, 0xb00327c8, 0xbf597fc7, 0xc6e00bf3, 0xd5a79147, 0x06ca6351, 0x14292967,
  0x27b70a85, 0x2e1b2138, 0x4d2c6dfc, 0x53380d13, 0x650a7354, 0x766a0abb, 0x81c2c92e, 0x92722c85,
  0xa2bfe8a1, 0xa81a664b, 0xc24b8b70, 0xc76c51a3, 0xd192e819, 0xd6990624, 0xf40e3585, 0x106aa070,
  0x19a4c116, 0x1e376c08, 0x2748774c, 0x34b0bcb5, 0x391c0cb3, 0x4ed8aa4a, 0x5b9cca4f, 0x682e6ff3,
  0x748f82ee, 0x78a5636f, 0x84c87814, 0x8cc70208, 0x90befffa, 0xa4506ceb, 0xbef9a3f7, 0xc67178f2]
def htab : List Int := [0x6a09e667, 0xbb67ae85, 0x3c6ef372, 0xa54ff53a, 0x510e527f, 0x9b05688c, 0x1f83d9ab, 0x5be0cd19]

theorem first_ (w : World) : Calls Try.prog 45 #[] w (Ret (V htab) w) := by
  go_enter Try.func45, Try.ntmps45
  go_wp2
  exact bodyPost_ret (v := V htab) (by simp [results, Try.results45, go_sem, V, htab]) rfl ⟨rfl, Up.alloc _ _⟩

set_option maxRecDepth 1000000 in
set_option maxHeartbeats 4000000 in
theorem table_ (w : World) : Calls Try.prog 57 #[] w (Ret (V ktab) w) := by
  go_enter Try.func57, Try.ntmps57
  go_wp2_with (first
    | (refine wpList_build rfl 65 _ rfl (by kernel_rfl) ?_)
    | (refine wpList_store_row rfl 65 (Operand.tmp 0) (Operand.tmp 1) rfl _ (ktab.map (Value.int .u32)).toArray rfl ?hy 65 _ (heap_new _ _) (by rw [info65d]; rfl) (by rfl) (all_one _) ?_))
  case hy => kernel_rfl
  refine bodyPost_ret (results_cell_row rfl _ _ _ 65 _ (0, 0) _ rfl (Arr.row (heap_new w _) ktab) Try.underlying65 rfl (by rw [info65d]; rfl)) rfl ⟨rfl, (Up.alloc _ _).setRow _ _ (Nat.le_refl _)⟩

theorem or_byte {x c : Int} (hx : 0 ≤ x ∧ x < 16777216) (hc : 0 ≤ c ∧ c < 256) : bits .or .u32 (x * 256 % 4294967296) c = x * 256 + c := by
  rw [show x * 256 % 4294967296 = x * 256 by omega]
  refine bits_join .u32 32 (by decide) (fun n h0 h1 => ?_) 8 (x * 256) c (by omega) (by omega) (by omega) hc.1 (by omega) (by omega)
  rw [IntKind.wrap_u32]
  omega

def zeros : List Int := List.replicate 64 0
set_option maxRecDepth 1000000 in
set_option maxHeartbeats 8000000 in
theorem words_ (bs : List Int) (b off c : Nat) (w : World) (hl : bs.length = 64) (hB : AllB bs) (hcap : 64 ≤ c) (hc : ∀ j, j < 64 → w.cell? ⟨b, off + j, none⟩ = some (.int .u8 (bs.getD j 0))) :
    Calls Try.prog 56 #[.slice (some ⟨b, off, none⟩) 64 c] w (Ret (V (wl bs 64)) w) := by
  have HC := Lib.hid hc
  have HB := Lib.hid hB
  clear hc hl
  go_enter Try.func56, Try.ntmps56
  go_wp2
  go_loopw [11] (fun i wr => ∃ (k : Nat) (ys : List Int), k ≤ 64 ∧ i = .int .i64 k ∧ ys.length = 64 ∧ (∀ j, j < 64 → ys.getD j 0 = if j < k then (wl bs k).getD j 0 else 0) ∧
    Arr 65 wr (w.heap.size + 1) ys ∧ Arr 65 wr w.heap.size zeros ∧ Up w wr) (fun i _ => 64 - (intOf i).toNat)
  case atStart => exact ⟨0, zeros, by omega, rfl, by simp [zeros], fun j hj => by rw [if_neg (by omega)]; unfold zeros; rw [List.getD_eq_getElem?_getD, List.getElem?_replicate]; simp [hj], at1 _ _ _, at0 _ _ _, (Up.alloc _ _).trans (Up.alloc _ _)⟩
  case round =>
    obtain ⟨k, ys, hk, rfl, hy8, hys, r3, r2, ru⟩ := hrel
    have S3 := Lib.hid r3
    have S2 := Lib.hid r2
    have SU := Lib.hid ru
    have SY := Lib.hid hys
    have SL := Lib.hid hy8
    clear r3 r2 ru hys hy8
    rename World => w2
    by_cases hlt : k < 64
    · by_cases h16 : k < 16
      · have hd : decide ((k : Int) < 16) = true := decide_eq_true (by omega)
        go_wp2
        go_loopw [27] (fun i wr => ∃ (m : Nat) (zs : List Int), m ≤ 4 ∧ i = .int .i64 m ∧ zs.length = 64 ∧ (∀ j, j < 64 → zs.getD j 0 = if j = k then part bs (4 * k) m else ys.getD j 0) ∧
          Arr 65 wr (w.heap.size + 1) zs ∧ Arr 65 wr w.heap.size zeros ∧ Up w wr) (fun i _ => 4 - (intOf i).toNat)
        case atStart => exact ⟨0, ys, by omega, rfl, SL.out, fun j hj => by
          by_cases e : j = k
          · subst e; rw [if_pos rfl, SY.out j hj, if_neg (by omega)]; rfl
          · rw [if_neg e], S3.out, S2.out, SU.out⟩
        case round =>
          obtain ⟨m, zs, hm, rfl, hz8, hzs, r3, r2, ru⟩ := hrel
          have T3 := Lib.hid r3
          have T2 := Lib.hid r2
          have TU := Lib.hid ru
          have TZ := Lib.hid hzs
          have TL := Lib.hid hz8
          clear r3 r2 ru hzs hz8
          by_cases hm4 : m < 4
          · have cb := TU.out.cell (HC.out (4 * k + m) (by omega))
            rw [show off + (4 * k + m) = off + k * 4 + m by omega] at cb
            have cw := T3.out.cell k (by have := TL.out; omega)
            have fw := T3.out.frozen k
            have hp := TZ.out k hlt
            rw [if_pos rfl] at hp
            rw [hp] at cw
            have hq : part bs (4 * k) (m + 1) = part bs (4 * k) m * 256 + bs.getD (4 * k + m) 0 := rfl
            have hpi := part_in HB.out (4 * k) m hm
            have hp24 : (256 : Int) ^ m ≤ 16777216 := by
              have : m = 0 ∨ m = 1 ∨ m = 2 ∨ m = 3 := by omega
              rcases this with rfl | rfl | rfl | rfl <;> decide
            have hci := HB.out.getD (4 * k + m)
            obtain ⟨p, hpp⟩ : ∃ p, part bs (4 * k) m = p := ⟨_, rfl⟩
            obtain ⟨q, hqq⟩ : ∃ q, bs.getD (4 * k + m) 0 = q := ⟨_, rfl⟩
            rw [hpp, hqq] at hq
            rw [hpp] at cw hpi
            rw [hqq] at cb hci
            have hor := or_byte (x := p) (c := q) ⟨hpi.1, by omega⟩ hci
            rw [show p * 256 % 4294967296 = p * 256 by omega] at hor
            have HOR := Lib.hid hor
            have HQ := Lib.hid hq
            obtain ⟨p0, p1⟩ := hpi
            obtain ⟨q0, q1⟩ := hci
            have p2 : p < 16777216 := by omega
            clear hp hq hpp hqq hor hp24 p1
            go_wp2
            rw [HOR.out]
            refine ⟨⟨m + 1, zs.set k (p * 256 + q), by omega, by go_num, by simp [TL.out], ?_, T3.out.setCell k (by rw [TL.out]; exact hlt) _, T2.out.setCell_other k _ (by omega), TU.out.setNew _ _ (by simp)⟩, by simp [intOf]; omega⟩
            intro j hj
            rw [List.getD_eq_getElem?_getD, List.getElem?_set]
            by_cases e : k = j
            · subst e
              rw [if_pos rfl, if_pos (by rw [TL.out]; exact hj), if_pos rfl, HQ.out]; rfl
            · rw [if_neg e, ← List.getD_eq_getElem?_getD, TZ.out j hj, if_neg (fun h => e h.symm), if_neg (fun h => e h.symm)]
          · have hm5 : m = 4 := by omega
            go_wp2
            refine ⟨⟨k + 1, zs, by omega, by go_num, TL.out, ?_, T3.out, T2.out, TU.out⟩, by simp [intOf]; omega⟩
            intro j hj
            rw [TZ.out j hj]
            by_cases e : j = k
            · subst e
              rw [if_pos rfl, if_pos (by omega), wl_last, if_pos h16, hm5]
            · rw [if_neg e, SY.out j hj]
              by_cases e2 : j < k
              · rw [if_pos e2, if_pos (by omega), wl_pre bs k j e2]
              · rw [if_neg e2, if_neg (by omega)]
      · obtain ⟨r, rfl⟩ : ∃ r, k = r + 16 := ⟨k - 16, by omega⟩
        have hd : decide (((r + 16 : Nat) : Int) < 16) = false := decide_eq_false (by omega)
        have hr1 : (0 : Int) ≤ (r : Int) := by omega
        have hr2 : (r : Int) < 48 := by omega
        have hg : ∀ j, j < r + 16 → ys.getD j 0 = (wl bs (r + 16)).getD j 0 := fun j hj => by rw [SY.out j (by omega), if_pos hj]
        have g0 := hg r (by omega)
        have g1 := hg (r + 1) (by omega)
        have g9 := hg (r + 9) (by omega)
        have g14 := hg (r + 14) (by omega)
        have k1 := wl_u32 HB.out (r + 16) (r + 1) (by omega)
        have k14 := wl_u32 HB.out (r + 16) (r + 14) (by omega)
        have hlast := wl_last bs (r + 16)
        rw [if_neg (by omega), show r + 16 - 16 = r by omega, show r + 16 - 15 = r + 1 by omega, show r + 16 - 7 = r + 9 by omega, show r + 16 - 2 = r + 14 by omega] at hlast
        have c0 := S3.out.cell r (by have := SL.out; omega)
        have c1 := S3.out.cell (r + 1) (by have := SL.out; omega)
        have c9 := S3.out.cell (r + 9) (by have := SL.out; omega)
        have c14 := S3.out.cell (r + 14) (by have := SL.out; omega)
        have c16 := S3.out.cell (r + 16) (by have := SL.out; omega)
        have f16 := S3.out.frozen (r + 16)
        obtain ⟨x0, e0⟩ : ∃ x, (wl bs (r + 16)).getD r 0 = x := ⟨_, rfl⟩
        obtain ⟨x1, e1⟩ : ∃ x, (wl bs (r + 16)).getD (r + 1) 0 = x := ⟨_, rfl⟩
        obtain ⟨x9, e9⟩ : ∃ x, (wl bs (r + 16)).getD (r + 9) 0 = x := ⟨_, rfl⟩
        obtain ⟨x14, e14⟩ : ∃ x, (wl bs (r + 16)).getD (r + 14) 0 = x := ⟨_, rfl⟩
        rw [g0, e0] at c0
        rw [g1, e1] at c1
        rw [g9, e9] at c9
        rw [g14, e14] at c14
        rw [e1] at k1
        rw [e14] at k14
        rw [e0, e1, e9, e14] at hlast
        have HL := Lib.hid hlast
        have K1 := Lib.hid k1
        have K14 := Lib.hid k14
        have HLT := Lib.hid hlt
        clear g0 g1 g9 g14 hg hlast k1 k14 e0 e1 e9 e14 hd h16
        have hd : decide ((r : Int) + 16 < 16) = false := decide_eq_false (by omega)
        have hd2 : decide ((r : Int) + 16 < 64) = true := decide_eq_true (by omega)
        have z15 : IntKind.i64.wrap ((r : Int) + 16 - 15) = (r : Int) + 1 := by rw [IntWalk.i64_left]; unfold wrap64; omega
        have z2 : IntKind.i64.wrap ((r : Int) + 16 - 2) = (r : Int) + 14 := by rw [IntWalk.i64_left]; unfold wrap64; omega
        have z16 : IntKind.i64.wrap ((r : Int) + 16 - 16) = (r : Int) := by rw [IntWalk.i64_left]; unfold wrap64; omega
        have z7 : IntKind.i64.wrap ((r : Int) + 16 - 7) = (r : Int) + 9 := by rw [IntWalk.i64_left]; unfold wrap64; omega
        go_wp2_with fail
        go_quiet (fail)
        generalize hwq : World.drewN w2 _ = wq
        have hq : Up w2 wq := by rw [← hwq]; exact Up.drewN _ _
        have d0 := hq.cell c0
        have d9 := hq.cell c9
        have d16 := hq.cell c16
        have fq := (S3.out.up hq).frozen (r + 16)
        have HQ := Lib.hid hq
        clear hwq hq c0 c1 c9 c14 c16 f16
        go_wp2_with fail
        refine (right_ _ _ _ K1.out (by omega) (by omega)).mono ?_
        rintro e w' ⟨rfl, rfl⟩
        go_wp2_with fail
        refine (right_ _ _ _ K1.out (by omega) (by omega)).mono ?_
        rintro e w' ⟨rfl, rfl⟩
        go_wp2_with fail
        refine (right_ _ _ _ K14.out (by omega) (by omega)).mono ?_
        rintro e w' ⟨rfl, rfl⟩
        go_wp2_with fail
        refine (right_ _ _ _ K14.out (by omega) (by omega)).mono ?_
        rintro e w' ⟨rfl, rfl⟩
        go_wp2_with fail
        go_region
        all_goals go_wp2
        refine ⟨⟨r + 16 + 1, ys.set (r + 16) ((x0 + s0 x1 + x9 + s1 x14) % 4294967296), by omega, by go_num, by simp [SL.out], ?_, ((S3.out.up HQ.out).setCell (r + 16) (by rw [SL.out]; omega) _).up (Up.drew _),
          ((S2.out.up HQ.out).setCell_other (r + 16) _ (by omega)).up (Up.drew _), ((SU.out.trans HQ.out).setNew _ _ (by simp)).trans (Up.drew _)⟩, by simp [intOf]; omega⟩
        intro j hj
        rw [List.getD_eq_getElem?_getD, List.getElem?_set]
        by_cases e : r + 16 = j
        · subst e
          rw [if_pos rfl, if_pos (by rw [SL.out]; exact hj), if_pos (by omega), HL.out]; rfl
        · rw [if_neg e, ← List.getD_eq_getElem?_getD, SY.out j hj]
          by_cases e2 : j < r + 16
          · rw [if_pos e2, if_pos (by omega), wl_pre bs (r + 16) j e2]
          · rw [if_neg e2, if_neg (by omega)]
    · have hys : ys = wl bs 64 := by
        refine List.ext_getElem (by rw [SL.out, wl_len]) fun j h1 h2 => ?_
        have hk64 : k = 64 := by omega
        have := SY.out j (by rw [← SL.out]; exact h1)
        rw [hk64, if_pos (by have := SL.out; omega), List.getD_eq_getElem?_getD, List.getElem?_eq_getElem h1, List.getD_eq_getElem?_getD, List.getElem?_eq_getElem h2] at this
        exact this
      have HYS := Lib.hid hys
      have HI := Lib.hid (show (Try.prog.info? 65).map (·.size) = some (ys.map (Value.int .u32)).toArray.size by rw [info65d]; simp [SL.out])
      clear hys
      go_wp2_with (first
        | (refine wpList_load_row rfl 65 (Operand.tmp 3) rfl _ rfl 65 _ (0, 0) _ S3.out Try.underlying65 rfl HI.out ?_)
        | (refine wpList_store_row rfl 65 (Operand.tmp 2) (Operand.tmp 81) rfl _ (ys.map (Value.int .u32)).toArray rfl rfl 65 _ S2.out HI.out (by simp [SL.out, zeros]) (all_one _) ?_))
      refine bodyPost_ret (results_cell_row rfl _ _ _ 65 _ (0, 0) _ rfl (Arr.row S2.out ys) Try.underlying65 rfl HI.out) rfl ⟨?_, ?_⟩
      · rw [HYS.out]; rfl
      · exact SU.out.setRow _ _ (Nat.le_refl _)
end Go.Proofs.Yteeibpeefhaoiaa
