/- SHA-256: a number's bytes (sha.great), bytes cloned, padded. No condition beside the bounds that each states. -/
import Derived.Test.YteeibpeefhaoiaaShaD
namespace Go.Proofs.Yteeibpeefhaoiaa
open Go.RowKit
set_option linter.unusedVariables false

/-- A call that answers a slice in memory of its own. -/
def RetOw (k : IntKind) (e : TypeId) (xs : List Int) (w : World) (en : Ending) (w' : World) : Prop := ∃ v, en = .returned v ∧ Ow k e w' w.heap.size v xs ∧ Up w w'

def gr (n : Int) (m : Nat) : List Int := (List.range m).map fun j => n / 2 ^ (8 * (m - 1 - j)) % 256
theorem gr_len (n : Int) (m : Nat) : (gr n m).length = m := by simp [gr]
theorem gr_getD (n : Int) (m j : Nat) (h : j < m) : (gr n m).getD j 0 = n / 2 ^ (8 * (m - 1 - j)) % 256 := by
  simp [gr, List.getD_eq_getElem?_getD, List.getElem?_map, List.getElem?_range h]

section
variable {k : IntKind} {e : TypeId} {w : World} {base g n cap : Nat} {xs : List Int}
theorem Ow.cellAt' (h : Ow k e w base (.slice (some ⟨g, 0, none⟩) n cap) xs) (hn : xs.length = n) (j : Nat) (hj : j < n) : w.cell? ⟨g, j, none⟩ = some (.int k (xs.getD j 0)) := by
  unfold Ow at h
  rw [hn] at h
  rw [World.ownsRow.cellAt h j (by omega)]
  simp [List.getD_eq_getElem?_getD, List.getElem?_eq_getElem (show j < xs.length by omega)]
theorem Ow.frozenAt' (h : Ow k e w base (.slice (some ⟨g, 0, none⟩) n cap) xs) (hn : xs.length = n) (j : Nat) : w.frozen? ⟨g, j, none⟩ = false := by
  unfold Ow at h
  rw [hn] at h
  exact World.ownsRow.frozenAt h j
theorem Ow.stored' (h : Ow k e w base (.slice (some ⟨g, 0, none⟩) n cap) xs) (hn : xs.length = n) (j : Nat) (y : Int) : Ow k e (w.setCell ⟨g, j, none⟩ (.int k y)) base (.slice (some ⟨g, 0, none⟩) n cap) (xs.set j y) := by
  unfold Ow at h ⊢
  rw [hn] at h
  rw [List.length_set, hn, List.map_set]
  exact (World.ownsRow.stored h j _).1
end

set_option maxRecDepth 100000 in
set_option maxHeartbeats 8000000 in
theorem great_4 (n : Int) (w : World) (h0 : 0 ≤ n) : Calls Try.prog 49 #[.int .u64 n, .int .i64 4] w (RetOw .u8 5 (gr n 4) w) := by
  have hmk : ∀ W : World, (Instr.makeSlice 38 (.int .i64 4) (.int .i64 4)).run Try.prog W = .ok (.slice (some ⟨W.heap.size, 0, none⟩) 4 4) (W.alloc (.cells #[.int .u8 0, .int .u8 0, .int .u8 0, .int .u8 0] 5)) := fun W => by kernel_rfl
  go_enter Try.func49, Try.ntmps49
  go_wp2
  go_loopw [11] (fun i wr => ∃ (k : Nat) (zs : List Int), k ≤ 4 ∧ i = .int .i64 k ∧ zs.length = 4 ∧ (∀ j, j < 4 → zs.getD j 0 = if 4 - 1 - j < k then n / 2 ^ (8 * (4 - 1 - j)) % 256 else 0) ∧
    Ow .u8 5 wr w.heap.size (.slice (some ⟨w.heap.size, 0, none⟩) 4 4) zs ∧ Up w wr) (fun i _ => 4 - (intOf i).toNat)
  case atStart =>
    refine ⟨0, List.replicate 4 0, by omega, rfl, by simp, fun j hj => ?_, Ow.lit .u8 5 w w.heap.size (List.replicate 4 0) (Nat.le_refl _) (by simp), Up.alloc _ _⟩
    rw [if_neg (by omega), List.getD_eq_getElem?_getD, List.getElem?_replicate]; simp [hj]
  case round =>
    obtain ⟨k, zs, hk, rfl, hz, hzs, ho, hu⟩ := hrel
    have HZ := Lib.hid hz
    have HZS := Lib.hid hzs
    have HO := Lib.hid ho
    have HU := Lib.hid hu
    clear hz hzs ho hu hmk
    by_cases hlt : k < 4
    · have hk8 : k = 0 ∨ k = 1 ∨ k = 2 ∨ k = 3 := by omega
      clear hlt hk
      rcases hk8 with rfl | rfl | rfl | rfl
      · have hcell := (HO.out.cellAt' HZ.out 3 (by omega))
        have hfz := HO.out.frozenAt' HZ.out 3
        obtain ⟨y, hy⟩ : ∃ y, zs.getD 3 0 = y := ⟨_, rfl⟩
        rw [hy] at hcell
        clear hy
        go_wp2
        refine ⟨⟨1, zs.set 3 (n / 2 ^ (8 * 0) % 256), by omega, by first | rfl | go_num, by simp [HZ.out], fun j hj => ?_, ?_, HU.out.setNew _ _ (by simp)⟩, by simp [intOf]⟩
        · rw [List.getD_eq_getElem?_getD, List.getElem?_set]
          by_cases e : 3 = j
          · subst e; rw [if_pos rfl, if_pos (by rw [HZ.out]; exact hj), if_pos (by omega)]; rfl
          · rw [if_neg e, ← List.getD_eq_getElem?_getD, HZS.out j hj]
            by_cases c : 4 - 1 - j < 0
            · rw [if_pos c, if_pos (by omega)]
            · rw [if_neg c, if_neg (by omega)]
        · have h := HO.out.stored' HZ.out 3 (n / 2 ^ (8 * 0) % 256)
          simpa using h
      · have hcell := (HO.out.cellAt' HZ.out 2 (by omega))
        have hfz := HO.out.frozenAt' HZ.out 2
        obtain ⟨y, hy⟩ : ∃ y, zs.getD 2 0 = y := ⟨_, rfl⟩
        rw [hy] at hcell
        clear hy
        go_wp2
        refine ⟨⟨2, zs.set 2 (n / 2 ^ (8 * 1) % 256), by omega, by first | rfl | go_num, by simp [HZ.out], fun j hj => ?_, ?_, HU.out.setNew _ _ (by simp)⟩, by simp [intOf]⟩
        · rw [List.getD_eq_getElem?_getD, List.getElem?_set]
          by_cases e : 2 = j
          · subst e; rw [if_pos rfl, if_pos (by rw [HZ.out]; exact hj), if_pos (by omega)]; rfl
          · rw [if_neg e, ← List.getD_eq_getElem?_getD, HZS.out j hj]
            by_cases c : 4 - 1 - j < 1
            · rw [if_pos c, if_pos (by omega)]
            · rw [if_neg c, if_neg (by omega)]
        · have h := HO.out.stored' HZ.out 2 (n / 2 ^ (8 * 1) % 256)
          simpa using h
      · have hcell := (HO.out.cellAt' HZ.out 1 (by omega))
        have hfz := HO.out.frozenAt' HZ.out 1
        obtain ⟨y, hy⟩ : ∃ y, zs.getD 1 0 = y := ⟨_, rfl⟩
        rw [hy] at hcell
        clear hy
        go_wp2
        refine ⟨⟨3, zs.set 1 (n / 2 ^ (8 * 2) % 256), by omega, by first | rfl | go_num, by simp [HZ.out], fun j hj => ?_, ?_, HU.out.setNew _ _ (by simp)⟩, by simp [intOf]⟩
        · rw [List.getD_eq_getElem?_getD, List.getElem?_set]
          by_cases e : 1 = j
          · subst e; rw [if_pos rfl, if_pos (by rw [HZ.out]; exact hj), if_pos (by omega)]; rfl
          · rw [if_neg e, ← List.getD_eq_getElem?_getD, HZS.out j hj]
            by_cases c : 4 - 1 - j < 2
            · rw [if_pos c, if_pos (by omega)]
            · rw [if_neg c, if_neg (by omega)]
        · have h := HO.out.stored' HZ.out 1 (n / 2 ^ (8 * 2) % 256)
          simpa using h
      · have hcell := (HO.out.cellAt' HZ.out 0 (by omega))
        have hfz := HO.out.frozenAt' HZ.out 0
        obtain ⟨y, hy⟩ : ∃ y, zs.getD 0 0 = y := ⟨_, rfl⟩
        rw [hy] at hcell
        clear hy
        go_wp2
        refine ⟨⟨4, zs.set 0 (n / 2 ^ (8 * 3) % 256), by omega, by first | rfl | go_num, by simp [HZ.out], fun j hj => ?_, ?_, HU.out.setNew _ _ (by simp)⟩, by simp [intOf]⟩
        · rw [List.getD_eq_getElem?_getD, List.getElem?_set]
          by_cases e : 0 = j
          · subst e; rw [if_pos rfl, if_pos (by rw [HZ.out]; exact hj), if_pos (by omega)]; rfl
          · rw [if_neg e, ← List.getD_eq_getElem?_getD, HZS.out j hj]
            by_cases c : 4 - 1 - j < 3
            · rw [if_pos c, if_pos (by omega)]
            · rw [if_neg c, if_neg (by omega)]
        · have h := HO.out.stored' HZ.out 0 (n / 2 ^ (8 * 3) % 256)
          simpa using h
    · have hkm : k = 4 := by omega
      have HE := Lib.hid (show zs = gr n 4 by
        refine List.ext_getElem (by rw [HZ.out, gr_len]) fun j h1 h2 => ?_
        have h := HZS.out j (by rw [← HZ.out]; exact h1)
        rw [if_pos (by omega), ← gr_getD n 4 j (by rw [← HZ.out]; exact h1), List.getD_eq_getElem?_getD, List.getElem?_eq_getElem h1, List.getD_eq_getElem?_getD, List.getElem?_eq_getElem h2] at h
        exact h)
      clear hkm
      go_wp2
      go_ret
      exact ⟨_, rfl, HE.out ▸ HO.out, HU.out⟩

set_option maxRecDepth 100000 in
set_option maxHeartbeats 8000000 in
theorem great_8 (n : Int) (w : World) (h0 : 0 ≤ n) : Calls Try.prog 49 #[.int .u64 n, .int .i64 8] w (RetOw .u8 5 (gr n 8) w) := by
  have hmk : ∀ W : World, (Instr.makeSlice 38 (.int .i64 8) (.int .i64 8)).run Try.prog W = .ok (.slice (some ⟨W.heap.size, 0, none⟩) 8 8) (W.alloc (.cells #[.int .u8 0, .int .u8 0, .int .u8 0, .int .u8 0, .int .u8 0, .int .u8 0, .int .u8 0, .int .u8 0] 5)) := fun W => by kernel_rfl
  go_enter Try.func49, Try.ntmps49
  go_wp2
  go_loopw [11] (fun i wr => ∃ (k : Nat) (zs : List Int), k ≤ 8 ∧ i = .int .i64 k ∧ zs.length = 8 ∧ (∀ j, j < 8 → zs.getD j 0 = if 8 - 1 - j < k then n / 2 ^ (8 * (8 - 1 - j)) % 256 else 0) ∧
    Ow .u8 5 wr w.heap.size (.slice (some ⟨w.heap.size, 0, none⟩) 8 8) zs ∧ Up w wr) (fun i _ => 8 - (intOf i).toNat)
  case atStart =>
    refine ⟨0, List.replicate 8 0, by omega, rfl, by simp, fun j hj => ?_, Ow.lit .u8 5 w w.heap.size (List.replicate 8 0) (Nat.le_refl _) (by simp), Up.alloc _ _⟩
    rw [if_neg (by omega), List.getD_eq_getElem?_getD, List.getElem?_replicate]; simp [hj]
  case round =>
    obtain ⟨k, zs, hk, rfl, hz, hzs, ho, hu⟩ := hrel
    have HZ := Lib.hid hz
    have HZS := Lib.hid hzs
    have HO := Lib.hid ho
    have HU := Lib.hid hu
    clear hz hzs ho hu hmk
    by_cases hlt : k < 8
    · have hk8 : k = 0 ∨ k = 1 ∨ k = 2 ∨ k = 3 ∨ k = 4 ∨ k = 5 ∨ k = 6 ∨ k = 7 := by omega
      clear hlt hk
      rcases hk8 with rfl | rfl | rfl | rfl | rfl | rfl | rfl | rfl
      · have hcell := (HO.out.cellAt' HZ.out 7 (by omega))
        have hfz := HO.out.frozenAt' HZ.out 7
        obtain ⟨y, hy⟩ : ∃ y, zs.getD 7 0 = y := ⟨_, rfl⟩
        rw [hy] at hcell
        clear hy
        go_wp2
        refine ⟨⟨1, zs.set 7 (n / 2 ^ (8 * 0) % 256), by omega, by first | rfl | go_num, by simp [HZ.out], fun j hj => ?_, ?_, HU.out.setNew _ _ (by simp)⟩, by simp [intOf]⟩
        · rw [List.getD_eq_getElem?_getD, List.getElem?_set]
          by_cases e : 7 = j
          · subst e; rw [if_pos rfl, if_pos (by rw [HZ.out]; exact hj), if_pos (by omega)]; rfl
          · rw [if_neg e, ← List.getD_eq_getElem?_getD, HZS.out j hj]
            by_cases c : 8 - 1 - j < 0
            · rw [if_pos c, if_pos (by omega)]
            · rw [if_neg c, if_neg (by omega)]
        · have h := HO.out.stored' HZ.out 7 (n / 2 ^ (8 * 0) % 256)
          simpa using h
      · have hcell := (HO.out.cellAt' HZ.out 6 (by omega))
        have hfz := HO.out.frozenAt' HZ.out 6
        obtain ⟨y, hy⟩ : ∃ y, zs.getD 6 0 = y := ⟨_, rfl⟩
        rw [hy] at hcell
        clear hy
        go_wp2
        refine ⟨⟨2, zs.set 6 (n / 2 ^ (8 * 1) % 256), by omega, by first | rfl | go_num, by simp [HZ.out], fun j hj => ?_, ?_, HU.out.setNew _ _ (by simp)⟩, by simp [intOf]⟩
        · rw [List.getD_eq_getElem?_getD, List.getElem?_set]
          by_cases e : 6 = j
          · subst e; rw [if_pos rfl, if_pos (by rw [HZ.out]; exact hj), if_pos (by omega)]; rfl
          · rw [if_neg e, ← List.getD_eq_getElem?_getD, HZS.out j hj]
            by_cases c : 8 - 1 - j < 1
            · rw [if_pos c, if_pos (by omega)]
            · rw [if_neg c, if_neg (by omega)]
        · have h := HO.out.stored' HZ.out 6 (n / 2 ^ (8 * 1) % 256)
          simpa using h
      · have hcell := (HO.out.cellAt' HZ.out 5 (by omega))
        have hfz := HO.out.frozenAt' HZ.out 5
        obtain ⟨y, hy⟩ : ∃ y, zs.getD 5 0 = y := ⟨_, rfl⟩
        rw [hy] at hcell
        clear hy
        go_wp2
        refine ⟨⟨3, zs.set 5 (n / 2 ^ (8 * 2) % 256), by omega, by first | rfl | go_num, by simp [HZ.out], fun j hj => ?_, ?_, HU.out.setNew _ _ (by simp)⟩, by simp [intOf]⟩
        · rw [List.getD_eq_getElem?_getD, List.getElem?_set]
          by_cases e : 5 = j
          · subst e; rw [if_pos rfl, if_pos (by rw [HZ.out]; exact hj), if_pos (by omega)]; rfl
          · rw [if_neg e, ← List.getD_eq_getElem?_getD, HZS.out j hj]
            by_cases c : 8 - 1 - j < 2
            · rw [if_pos c, if_pos (by omega)]
            · rw [if_neg c, if_neg (by omega)]
        · have h := HO.out.stored' HZ.out 5 (n / 2 ^ (8 * 2) % 256)
          simpa using h
      · have hcell := (HO.out.cellAt' HZ.out 4 (by omega))
        have hfz := HO.out.frozenAt' HZ.out 4
        obtain ⟨y, hy⟩ : ∃ y, zs.getD 4 0 = y := ⟨_, rfl⟩
        rw [hy] at hcell
        clear hy
        go_wp2
        refine ⟨⟨4, zs.set 4 (n / 2 ^ (8 * 3) % 256), by omega, by first | rfl | go_num, by simp [HZ.out], fun j hj => ?_, ?_, HU.out.setNew _ _ (by simp)⟩, by simp [intOf]⟩
        · rw [List.getD_eq_getElem?_getD, List.getElem?_set]
          by_cases e : 4 = j
          · subst e; rw [if_pos rfl, if_pos (by rw [HZ.out]; exact hj), if_pos (by omega)]; rfl
          · rw [if_neg e, ← List.getD_eq_getElem?_getD, HZS.out j hj]
            by_cases c : 8 - 1 - j < 3
            · rw [if_pos c, if_pos (by omega)]
            · rw [if_neg c, if_neg (by omega)]
        · have h := HO.out.stored' HZ.out 4 (n / 2 ^ (8 * 3) % 256)
          simpa using h
      · have hcell := (HO.out.cellAt' HZ.out 3 (by omega))
        have hfz := HO.out.frozenAt' HZ.out 3
        obtain ⟨y, hy⟩ : ∃ y, zs.getD 3 0 = y := ⟨_, rfl⟩
        rw [hy] at hcell
        clear hy
        go_wp2
        refine ⟨⟨5, zs.set 3 (n / 2 ^ (8 * 4) % 256), by omega, by first | rfl | go_num, by simp [HZ.out], fun j hj => ?_, ?_, HU.out.setNew _ _ (by simp)⟩, by simp [intOf]⟩
        · rw [List.getD_eq_getElem?_getD, List.getElem?_set]
          by_cases e : 3 = j
          · subst e; rw [if_pos rfl, if_pos (by rw [HZ.out]; exact hj), if_pos (by omega)]; rfl
          · rw [if_neg e, ← List.getD_eq_getElem?_getD, HZS.out j hj]
            by_cases c : 8 - 1 - j < 4
            · rw [if_pos c, if_pos (by omega)]
            · rw [if_neg c, if_neg (by omega)]
        · have h := HO.out.stored' HZ.out 3 (n / 2 ^ (8 * 4) % 256)
          simpa using h
      · have hcell := (HO.out.cellAt' HZ.out 2 (by omega))
        have hfz := HO.out.frozenAt' HZ.out 2
        obtain ⟨y, hy⟩ : ∃ y, zs.getD 2 0 = y := ⟨_, rfl⟩
        rw [hy] at hcell
        clear hy
        go_wp2
        refine ⟨⟨6, zs.set 2 (n / 2 ^ (8 * 5) % 256), by omega, by first | rfl | go_num, by simp [HZ.out], fun j hj => ?_, ?_, HU.out.setNew _ _ (by simp)⟩, by simp [intOf]⟩
        · rw [List.getD_eq_getElem?_getD, List.getElem?_set]
          by_cases e : 2 = j
          · subst e; rw [if_pos rfl, if_pos (by rw [HZ.out]; exact hj), if_pos (by omega)]; rfl
          · rw [if_neg e, ← List.getD_eq_getElem?_getD, HZS.out j hj]
            by_cases c : 8 - 1 - j < 5
            · rw [if_pos c, if_pos (by omega)]
            · rw [if_neg c, if_neg (by omega)]
        · have h := HO.out.stored' HZ.out 2 (n / 2 ^ (8 * 5) % 256)
          simpa using h
      · have hcell := (HO.out.cellAt' HZ.out 1 (by omega))
        have hfz := HO.out.frozenAt' HZ.out 1
        obtain ⟨y, hy⟩ : ∃ y, zs.getD 1 0 = y := ⟨_, rfl⟩
        rw [hy] at hcell
        clear hy
        go_wp2
        refine ⟨⟨7, zs.set 1 (n / 2 ^ (8 * 6) % 256), by omega, by first | rfl | go_num, by simp [HZ.out], fun j hj => ?_, ?_, HU.out.setNew _ _ (by simp)⟩, by simp [intOf]⟩
        · rw [List.getD_eq_getElem?_getD, List.getElem?_set]
          by_cases e : 1 = j
          · subst e; rw [if_pos rfl, if_pos (by rw [HZ.out]; exact hj), if_pos (by omega)]; rfl
          · rw [if_neg e, ← List.getD_eq_getElem?_getD, HZS.out j hj]
            by_cases c : 8 - 1 - j < 6
            · rw [if_pos c, if_pos (by omega)]
            · rw [if_neg c, if_neg (by omega)]
        · have h := HO.out.stored' HZ.out 1 (n / 2 ^ (8 * 6) % 256)
          simpa using h
      · have hcell := (HO.out.cellAt' HZ.out 0 (by omega))
        have hfz := HO.out.frozenAt' HZ.out 0
        obtain ⟨y, hy⟩ : ∃ y, zs.getD 0 0 = y := ⟨_, rfl⟩
        rw [hy] at hcell
        clear hy
        go_wp2
        refine ⟨⟨8, zs.set 0 (n / 2 ^ (8 * 7) % 256), by omega, by first | rfl | go_num, by simp [HZ.out], fun j hj => ?_, ?_, HU.out.setNew _ _ (by simp)⟩, by simp [intOf]⟩
        · rw [List.getD_eq_getElem?_getD, List.getElem?_set]
          by_cases e : 0 = j
          · subst e; rw [if_pos rfl, if_pos (by rw [HZ.out]; exact hj), if_pos (by omega)]; rfl
          · rw [if_neg e, ← List.getD_eq_getElem?_getD, HZS.out j hj]
            by_cases c : 8 - 1 - j < 7
            · rw [if_pos c, if_pos (by omega)]
            · rw [if_neg c, if_neg (by omega)]
        · have h := HO.out.stored' HZ.out 0 (n / 2 ^ (8 * 7) % 256)
          simpa using h
    · have hkm : k = 8 := by omega
      have HE := Lib.hid (show zs = gr n 8 by
        refine List.ext_getElem (by rw [HZ.out, gr_len]) fun j h1 h2 => ?_
        have h := HZS.out j (by rw [← HZ.out]; exact h1)
        rw [if_pos (by omega), ← gr_getD n 8 j (by rw [← HZ.out]; exact h1), List.getD_eq_getElem?_getD, List.getElem?_eq_getElem h1, List.getD_eq_getElem?_getD, List.getElem?_eq_getElem h2] at h
        exact h)
      clear hkm
      go_wp2
      go_ret
      exact ⟨_, rfl, HE.out ▸ HO.out, HU.out⟩

/-- 'append' of nothing. -/
theorem append_nothing {ops : Array Oper} {rest : List Oper} {o : Oper} {a : Act} {Q : Exit → Act → World → Prop} {w : World} (hgd : o.guard = none) (s x : Operand)
    (ho : o.op = .call { callee := .builtin .append, args := #[s, x], argTypes := #[38, 38] }) (ht : o.type = 38) (B A : Option Addr) (c : Nat) (hs : a.eval s = .slice B 0 0) (hx : a.eval x = .slice A 0 c)
    (h : wpList Try.prog ops Q rest (a.put o.dst (.slice B 0 0)) w) : wpList Try.prog ops Q (o :: rest) a w := by
  refine wpList_plain hgd fun K hK => ?_
  have hr : Sem.run Try.prog (Builtin.append_ #[38, 38] 38 #[.slice B 0 0, .slice A 0 c]) w = .ok (.slice B 0 0) w := by cases A <;> cases B <;> kernel_rfl
  unfold Oper.wp execOp
  simp only [ho, ht, resolve, invoke, builtin, Sem.run_bind, Sem.run_pure, Result.andThen_ok, List.map_toArray, List.map_cons, List.map_nil, hs, hx, hr]
  exact hK _ _ h

theorem lit0 (w : World) : Ow .u8 5 (w.alloc (.cells #[] 5)) w.heap.size (.slice (some ⟨w.heap.size, 0, none⟩) 0 0) [] := Ow.lit .u8 5 w w.heap.size [] (Nat.le_refl _) (by simp)

theorem clone_ (v : Value) (xs : List Int) (w : World) (hv : Rd .u8 w v xs) (hl : xs.length ≤ 1099511627776) : Calls Try.prog 55 #[v] w (RetOw .u8 5 xs w) := by
  rcases hv with ⟨rfl, A, c, rfl⟩ | ⟨h0, h1, b, off, c, rfl, hcap, hc⟩
  · cases A with
    | none =>
      have hq : ∀ W, Sem.run Try.prog (binOp .eql 38 (.slice none 0 c) (.slice none 0 0)) W = .ok (.bool true) W := fun W => by kernel_rfl
      go_enter Try.func55, Try.ntmps55
      go_wp2
      go_ret
      exact ⟨_, rfl, Ow.nil _ _ _ _, Up.refl _⟩
    | some ad =>
      have hq : ∀ W, Sem.run Try.prog (binOp .eql 38 (.slice (some ad) 0 c) (.slice none 0 0)) W = .ok (.bool false) W := fun W => by kernel_rfl
      go_enter Try.func55, Try.ntmps55
      go_wp2_with (at_builtin; refine append_nothing rfl _ _ rfl rfl _ _ c rfl rfl ?_)
      go_ret
      exact ⟨_, rfl, lit0 w, Up.alloc _ _⟩
  · have HV := Lib.hid (show Rd .u8 w (.slice (some ⟨b, off, none⟩) xs.length c) xs from .inr ⟨h0, h1, b, off, c, rfl, hcap, hc⟩)
    have hq : ∀ W, Sem.run Try.prog (binOp .eql 38 (.slice (some ⟨b, off, none⟩) xs.length c) (.slice none 0 0)) W = .ok (.bool false) W := fun W => by kernel_rfl
    clear hc
    go_enter Try.func55, Try.ntmps55
    go_wp2_with (at_builtin; refine append_k .u8 38 5 1 Try.underlying38 infoB (by omega) rfl _ _ rfl w.heap.size _ _ [] xs rfl rfl (lit0 w) (HV.out.up (Up.alloc _ _)) h0 (by simp; omega) (by simp) (Up.alloc _ _) (Nat.le_refl _) ?_)
    intro v' w' hown hup
    have HO := Lib.hid hown
    have HU := Lib.hid hup
    clear hown hup
    go_wp2
    go_ret
    exact ⟨_, rfl, HO.out, HU.out⟩

theorem Ow.form {k : IntKind} {e : TypeId} {w : World} {base : Nat} {v : Value} {xs : List Int} (h : Ow k e w base v xs) : ∃ A c, v = .slice A xs.length c := by
  rcases h.2 with ⟨rfl, h0⟩ | ⟨g, cap, cur, rfl, _⟩
  · exact ⟨none, 0, by rw [h0]⟩
  · exact ⟨_, cap, rfl⟩
def slen : Value → Nat
  | .slice _ n _ => n
  | _ => 0

/-- Bytes with what follows them. -/
def pad (xs : List Int) : List Int := xs ++ [128] ++ List.replicate ((119 - xs.length % 64) % 64) 0 ++ gr ((xs.length : Int) * 8) 8

theorem padded_ (v : Value) (xs : List Int) (w : World) (hv : Rd .u8 w v xs) (hl : xs.length ≤ 1099511627776) : Calls Try.prog 47 #[v] w (RetOw .u8 5 (pad xs) w) := by
  have HV := Lib.hid hv
  obtain ⟨A, c, rfl⟩ : ∃ A c, v = .slice A xs.length c := by
    rcases hv with ⟨rfl, A, c, rfl⟩ | ⟨h0, h1, b, off, c, rfl, _⟩
    · exact ⟨A, c, rfl⟩
    · exact ⟨_, c, rfl⟩
  clear hv
  go_enter Try.func47, Try.ntmps47
  go_wp2_with fail
  refine (clone_ _ _ _ HV.out hl).mono ?_
  rintro e w1 ⟨v1, rfl, o1, up1⟩
  have O1 := Lib.hid o1
  have U1 := Lib.hid up1
  clear o1 up1
  go_wp2_with (at_builtin; refine append_k .u8 38 5 1 Try.underlying38 infoB (by omega) rfl _ _ rfl w.heap.size _ _ xs [128] rfl rfl (O1.out.alloc _) (Rd.new .u8 _ [128] _ _ (by simp) (by simp) (by simp)) (by simp) (by simp; omega) (by have := U1.out.out.size; simp; omega) (U1.out.trans (Up.alloc _ _)) (Nat.le_refl _) ?_)
  intro v2 w2 hown hup
  have O2 := Lib.hid hown
  have U2 := Lib.hid hup
  clear hown hup
  go_wp2
  obtain ⟨n, hn⟩ : ∃ n, xs.length = n := ⟨_, rfl⟩
  obtain ⟨Z, hZ⟩ : ∃ Z, (119 - n % 64) % 64 = Z := ⟨_, rfl⟩
  have HN := Lib.hid hn
  have HZ := Lib.hid hZ
  rw [hn] at hl ⊢
  go_loopw [3] (fun s wr => ∃ z : Nat, z ≤ Z ∧ Ow .u8 5 wr w.heap.size s (xs ++ [128] ++ List.replicate z 0) ∧ Up w wr) (fun s _ => n + 1 + Z - slen s)
  case atStart => exact ⟨0, Nat.zero_le _, by simpa using O2.out, U2.out⟩
  case round =>
    obtain ⟨z, hz, ho, hu⟩ := hrel
    obtain ⟨B, cb, rfl⟩ := ho.form
    have HLEN := Lib.hid (show (xs ++ [128] ++ List.replicate z 0).length = n + 1 + z by simp [hn]; omega)
    have HO := Lib.hid ho
    have HU := Lib.hid hu
    obtain ⟨L, hL⟩ : ∃ L, (xs ++ [128] ++ List.replicate z 0).length = L := ⟨_, rfl⟩
    rw [hL] at HO HLEN ⊢
    have hLn : L = n + 1 + z := HLEN.out
    have hz64 : Z < 64 := by omega
    have HLN := Lib.hid hLn
    by_cases hlt : z < Z
    · have e1 : ((L : Int) % 64 != 56) = true := by rw [bne_iff_ne]; omega
      have e2 : ((L : Int) % 64 == 56) = false := by rw [beq_eq_false_iff_ne]; omega
      have hLb : (L : Int) ≤ 1099511627940 := by omega
      have HLT := Lib.hid hlt
      clear ho hu hL hLn hn hZ hlt
      go_wp2_with (at_builtin; refine append_k .u8 38 5 1 Try.underlying38 infoB (by omega) rfl _ _ rfl w.heap.size _ _ (xs ++ [128] ++ List.replicate z 0) [0] rfl rfl (HO.out.alloc _) (Rd.new .u8 _ [0] _ _ (by simp) (by simp) (by simp)) (by simp) (by have := HN.out; simp; omega) (by have := HU.out.out.size; simp; omega) (HU.out.trans (Up.alloc _ _)) (Nat.le_refl _) ?_)
      intro v3 w3 hown hup
      have O3 := Lib.hid (show Ow .u8 5 w3 w.heap.size v3 (xs ++ [128] ++ List.replicate (z + 1) 0) by
        have h := hown
        simp only [List.replicate_succ']
        simpa using h)
      have U3 := Lib.hid hup
      obtain ⟨B3, c3, rfl⟩ := O3.out.form
      have HL3 := Lib.hid (show (xs ++ [128] ++ List.replicate (z + 1) 0).length = n + 1 + (z + 1) by simp [HN.out]; omega)
      clear hown hup
      go_wp2
      exact ⟨⟨z + 1, HLT.out, O3.out, U3.out⟩, by have := HL3.out; have := HLN.out; have := HLT.out; simp only [slen]; omega⟩
    · have hzz : z = Z := by omega
      have e1 : ((L : Int) % 64 != 56) = false := by rw [bne_eq_false_iff_eq]; omega
      have e2 : ((L : Int) % 64 == 56) = true := by rw [beq_iff_eq]; omega
      have HZZ := Lib.hid hzz
      clear ho hu hL hLn hn hZ hlt hzz
      have hn8 : (n : Int) ≤ 1099511627776 := by omega
      go_wp2_with fail
      refine (great_8 _ _ (by omega)).mono ?_
      rintro e w4 ⟨v4, rfl, o4, up4⟩
      have O4 := Lib.hid o4
      have U4 := Lib.hid up4
      clear o4 up4
      go_wp2_with (at_builtin; refine append_k .u8 38 5 1 Try.underlying38 infoB (by omega) rfl _ _ rfl w.heap.size _ _ (xs ++ [128] ++ List.replicate z 0) (gr ((n : Int) * 8) 8) rfl rfl (HO.out.up U4.out) O4.out.rd (by rw [gr_len]; omega) (by have := HN.out; rw [gr_len]; simp; omega) (by have := (HU.out.trans U4.out).out.size; exact this) (HU.out.trans U4.out) (Nat.le_refl _) ?_)
      intro v5 w5 hown hup
      have O5 := Lib.hid (show Ow .u8 5 w5 w.heap.size v5 (pad xs) by
        unfold pad
        rw [HN.out, HZ.out, ← HZZ.out]
        simpa using hown)
      have U5 := Lib.hid hup
      clear hown hup
      go_wp2
      go_ret
      exact ⟨_, rfl, O5.out, U5.out⟩

end Go.Proofs.Yteeibpeefhaoiaa
