/- SHA-256: a chunk worked into a sum (sha.turn), out of what sha.words and sha.table answer. No condition beside that the words are words. -/
import Derived.Test.YteeibpeefhaoiaaShaB
namespace Go.Proofs.Yteeibpeefhaoiaa
open Go.RowKit
set_option linter.unusedVariables false

theorem info65 : (Try.prog.info? 65).map (·.size) = some 64 := by kernel_rfl
theorem info53 : (Try.prog.info? 53).map (·.size) = some 8 := by kernel_rfl
def run (h ks ws : List Int) : Nat → List Int
  | 0 => h
  | k + 1 => step (run h ks ws k) (ks.getD k 0) (ws.getD k 0)
theorem at0 (w : World) (o o' : Obj) : ((w.alloc o).alloc o').heap[w.heap.size]? = some o := by
  show ((w.heap.push o).push o')[w.heap.size]? = some o
  rw [Array.getElem?_push_lt (by simp)]
  simp
theorem at1 (w : World) (o o' : Obj) : ((w.alloc o).alloc o').heap[w.heap.size + 1]? = some o' := by
  show ((w.heap.push o).push o')[w.heap.size + 1]? = some o'
  have h : w.heap.size + 1 = (w.heap.push o).size := by simp
  rw [h]; exact Array.getElem?_push_size
theorem row_other {w : World} {g g' : Nat} {x : Obj} (h : w.heap[g]? = some x) (cs : Array Value) (hne : g' ≠ g) : (w.setRow g' cs).heap[g]? = some x := by
  unfold World.setRow
  simp [Array.getElem?_modify, h, hne]
theorem all_one (xs : List Int) : (xs.map (Value.int .u32)).toArray.all (·.oneCell') = true := by
  rw [Array.all_eq_true_iff_forall_mem]; intro x hx; simp at hx; obtain ⟨y, _, rfl⟩ := hx; rfl
theorem Arr.row {t : TypeId} {w : World} {g : Nat} {old : Array Value} (h : w.heap[g]? = some (.cells old t (0, 0))) (ys : List Int) : Arr t (w.setRow g (ys.map (Value.int .u32)).toArray) g ys := by
  unfold Arr World.setRow
  simp [Array.getElem?_modify, h]
theorem Arr.alloc {t : TypeId} {w : World} {g : Nat} {xs : List Int} (h : Arr t w g xs) (o : Obj) : Arr t (w.alloc o) g xs := h.up (Up.alloc _ _)

/-- From here on of the world nothing but this. -/
theorem forget {ops : Array Oper} {rest : List Oper} {a : Act} {Q : Exit → Act → World → Prop} {w : World} {R : World → Prop} (h : R w) (k : ∀ w, R w → wpList Try.prog ops Q rest a w) : wpList Try.prog ops Q rest a w := k w h

def AllU (xs : List Int) : Prop := ∀ x ∈ xs, U32 x
theorem add_in (x y : Int) : U32 (add x y) := by unfold add U32; omega
theorem run_eight {a0 a1 a2 a3 a4 a5 a6 a7 : Int} (ks ws : List Int) (k : Nat) (hu : AllU [a0, a1, a2, a3, a4, a5, a6, a7]) :
    ∃ x0 x1 x2 x3 x4 x5 x6 x7, run [a0, a1, a2, a3, a4, a5, a6, a7] ks ws k = [x0, x1, x2, x3, x4, x5, x6, x7] ∧ AllU [x0, x1, x2, x3, x4, x5, x6, x7] := by
  induction k with
  | zero => exact ⟨_, _, _, _, _, _, _, _, rfl, hu⟩
  | succ k ih =>
    obtain ⟨x0, x1, x2, x3, x4, x5, x6, x7, hx, hxu⟩ := ih
    refine ⟨_, _, _, _, _, _, _, _, by unfold run; rw [hx]; rfl, ?_⟩
    simp only [AllU, List.mem_cons, List.not_mem_nil, or_false, forall_eq_or_imp, forall_eq] at hxu ⊢
    obtain ⟨h0, h1, h2, h3, h4, h5, h6, h7⟩ := hxu
    exact ⟨add_in _ _, h0, h1, h2, add_in _ _, h4, h5, h6⟩
set_option maxRecDepth 100000 in
set_option maxHeartbeats 8000000 in
theorem turn_of (a0 a1 a2 a3 a4 a5 a6 a7 : Int) (v : Value) (ws ks : List Int) (w : World) (hw : ws.length = 64) (hk : ks.length = 64) (hu : AllU [a0, a1, a2, a3, a4, a5, a6, a7])
    (words_ : ∀ w1, Up w w1 → Calls Try.prog 56 #[v] w1 (Ret (V ws) w1)) (table_ : ∀ w, Calls Try.prog 57 #[] w (Ret (V ks) w)) :
    Calls Try.prog 48 #[V [a0, a1, a2, a3, a4, a5, a6, a7], v] w (Ret (V (List.zipWith add [a0, a1, a2, a3, a4, a5, a6, a7] (run [a0, a1, a2, a3, a4, a5, a6, a7] ks ws 64))) w) := by
  have HW := Lib.hid hw
  have HK := Lib.hid hk
  have WC := Lib.hid words_
  have TC := Lib.hid table_
  clear hw hk words_ table_
  go_enter Try.func48, Try.ntmps48
  unfold V
  simp only [List.map_cons, List.map_nil]
  go_wp2_with fail
  refine (WC.out _ ((Up.alloc _ _).trans (Up.alloc _ _))).mono ?_
  rintro e0 w1 ⟨rfl, u1⟩
  go_wp2_with fail
  refine (TC.out _).mono ?_
  rintro e0 w2 ⟨rfl, u2⟩
  have hs1 := u1.out.size
  have hs2 := u2.out.size
  simp at hs1
  have HA := Lib.hid ((((Arr.new 53 w [a0, a1, a2, a3, a4, a5, a6, a7]).alloc (.cells (([0, 0, 0, 0, 0, 0, 0, 0] : List Int).map (Value.int .u32)).toArray 53)).up u1).up u2)
  have HB := Lib.hid (show Arr 53 w2 (w.heap.size + 1) [0, 0, 0, 0, 0, 0, 0, 0] by
    have h := ((Arr.new 53 (w.alloc (.cells ([a0, a1, a2, a3, a4, a5, a6, a7].map (Value.int .u32)).toArray 53)) [0, 0, 0, 0, 0, 0, 0, 0]).up u1).up u2
    simpa using h)
  have HU := Lib.hid (((((Up.refl w).trans (Up.alloc w (.cells ([a0, a1, a2, a3, a4, a5, a6, a7].map (Value.int .u32)).toArray 53))).trans (Up.alloc _ (.cells (([0, 0, 0, 0, 0, 0, 0, 0] : List Int).map (Value.int .u32)).toArray 53))).trans u1).trans u2)
  clear u1 u2
  go_wp2_with (first
    | (refine wpList_store_row rfl 65 (Operand.tmp 5) (Operand.tmp 15) rfl _ (ws.map (Value.int .u32)).toArray rfl rfl 65 _ (at0 _ _ _) (by rw [info65]; simp [HW.out]) (by simp [HW.out]) (all_one _) ?_)
    | (refine wpList_store_row rfl 65 (Operand.tmp 6) (Operand.tmp 16) rfl _ (ks.map (Value.int .u32)).toArray rfl rfl 65 _ (row_other (at1 _ _ _) _ (by omega)) (by rw [info65]; simp [HK.out]) (by simp [HK.out]) (all_one _) ?_
       refine forget (R := fun W => (Arr 53 W w.heap.size [a0, a1, a2, a3, a4, a5, a6, a7] ∧ Arr 53 W (w.heap.size + 1) [0, 0, 0, 0, 0, 0, 0, 0]) ∧ (Arr 65 W w2.heap.size ws ∧ Arr 65 W (w2.heap.size + 1) ks) ∧ Up w W ∧ w2.heap.size + 2 ≤ W.heap.size) ?hR ?_
       rotate_left; rintro W3 ⟨⟨r2, r4⟩, ⟨r5, r6⟩, rU, rS⟩; have R2 := Lib.hid r2; have R4 := Lib.hid r4; have R5 := Lib.hid r5; have R6 := Lib.hid r6; have RU := Lib.hid rU; clear r2 r4 r5 r6 rU HA HB HU)
    | (refine wpList_load_row rfl 53 (Operand.tmp 2) rfl _ rfl 53 _ (0, 0) _ R2.out Try.underlying53 rfl (by rw [info53]; rfl) ?_))
  case hR =>
    refine ⟨⟨?_, ?_⟩, ⟨?_, ?_⟩, ?_, ?_⟩
    · exact (((HA.out.alloc _).alloc _).setRow_other _ (by omega)).setRow_other _ (by omega)
    · exact (((HB.out.alloc _).alloc _).setRow_other _ (by omega)).setRow_other _ (by omega)
    · exact (Arr.row (at0 _ _ _) ws).setRow_other _ (by omega)
    · exact Arr.row (row_other (at1 _ _ _) _ (by omega)) ks
    · exact (((HU.out.trans (Up.alloc _ _)).trans (Up.alloc _ _)).setRow _ _ (by omega)).setRow _ _ (by omega)
    · simp [World.setRow]
  go_loopw [18] (fun i wr => ∃ k : Nat, k ≤ 64 ∧ i = .int .i64 k ∧ Arr 53 wr W3.heap.size (run [a0, a1, a2, a3, a4, a5, a6, a7] ks ws k) ∧ (Arr 65 wr w2.heap.size ws ∧ Arr 65 wr (w2.heap.size + 1) ks) ∧ (Arr 53 wr w.heap.size [a0, a1, a2, a3, a4, a5, a6, a7] ∧ Arr 53 wr (w.heap.size + 1) [0, 0, 0, 0, 0, 0, 0, 0]) ∧ Up w wr) (fun i _ => 64 - (intOf i).toNat)
  case atStart => exact ⟨0, by omega, rfl, Arr.new 53 W3 [a0, a1, a2, a3, a4, a5, a6, a7], ⟨R5.out.alloc _, R6.out.alloc _⟩, ⟨R2.out.alloc _, R4.out.alloc _⟩, RU.out.trans (Up.alloc _ _)⟩
  case round =>
    obtain ⟨k, hk, rfl, r7, ⟨r5, r6⟩, ⟨r2, r4⟩, ru⟩ := hrel
    have S7 := Lib.hid r7
    have S5 := Lib.hid r5
    have S6 := Lib.hid r6
    have S2 := Lib.hid r2
    have S4 := Lib.hid r4
    have SU := Lib.hid ru
    clear r7 r5 r6 r2 r4 ru R2 R4 R5 R6 RU
    by_cases hlt : k < 64
    · obtain ⟨x0, x1, x2, x3, x4, x5, x6, x7, hx, hxu⟩ := run_eight ks ws k hu
      have hs := show run [a0, a1, a2, a3, a4, a5, a6, a7] ks ws (k + 1) = step (run [a0, a1, a2, a3, a4, a5, a6, a7] ks ws k) (ks.getD k 0) (ws.getD k 0) from rfl
      obtain ⟨kk, hkk⟩ : ∃ kk, ks.getD k 0 = kk := ⟨_, rfl⟩
      obtain ⟨ww, hww⟩ : ∃ ww, ws.getD k 0 = ww := ⟨_, rfl⟩
      have c5 := S5.out.cell k (by have := HW.out; omega)
      have c6 := S6.out.cell k (by have := HK.out; omega)
      rw [hkk] at c6 hs
      rw [hww] at c5 hs
      rw [hx] at hs
      have r7 := S7.out
      rw [hx] at r7
      have c70 := r7.cell 0 (by simp)
      have c71 := r7.cell 1 (by simp)
      have c72 := r7.cell 2 (by simp)
      have c73 := r7.cell 3 (by simp)
      have c74 := r7.cell 4 (by simp)
      have c75 := r7.cell 5 (by simp)
      have c76 := r7.cell 6 (by simp)
      have c77 := r7.cell 7 (by simp)
      simp only [List.getD_cons_zero, List.getD_cons_succ] at c70 c71 c72 c73 c74 c75 c76 c77
      have S7' := Lib.hid r7
      have HS := Lib.hid hs
      have HX0 := Lib.hid (hxu x0 (by simp))
      have HX4 := Lib.hid (hxu x4 (by simp))
      clear r7 hs hx hxu hkk hww S7
      have hk1 : (0 : Int) ≤ (k : Int) := by omega
      have hk2 : (k : Int) < 64 := by omega
      go_wp2_with fail
      go_quiet (fail)
      generalize hwq : World.drewN wr _ = wq
      have hq : Up wr wq := by rw [← hwq]; exact Up.drewN _ _
      have d70 := hq.cell c70
      have d71 := hq.cell c71
      have d72 := hq.cell c72
      have d73 := hq.cell c73
      have d74 := hq.cell c74
      have d75 := hq.cell c75
      have d76 := hq.cell c76
      have d77 := hq.cell c77
      have d5 := hq.cell c5
      have d6 := hq.cell c6
      have HQ := Lib.hid hq
      clear hwq hq c70 c71 c72 c73 c74 c75 c76 c77 c5 c6
      go_wp2_with fail
      go_quiet ((go_at_call 58; exact Calls.quiet_of_same (right_ _ _ _ HX4.out (by omega) (by omega))))
      generalize hwq : World.drewN wq _ = wz
      have hz : Up wq wz := by rw [← hwq]; exact Up.drewN _ _
      have c70 := hz.cell d70
      have c71 := hz.cell d71
      have c72 := hz.cell d72
      have c73 := hz.cell d73
      have c74 := hz.cell d74
      have c75 := hz.cell d75
      have c76 := hz.cell d76
      have c77 := hz.cell d77
      have HZ := Lib.hid (HQ.out.trans hz)
      clear hwq hz d70 d71 d72 d73 d74 d75 d76 d77 d5 d6 HQ
      go_wp2_with fail
      go_quiet ((go_at_call 58; exact Calls.quiet_of_same (right_ _ _ _ HX0.out (by omega) (by omega))))
      generalize hwq : World.drewN wz _ = wy
      have hy : Up wz wy := by rw [← hwq]; exact Up.drewN _ _
      have d70 := hy.cell c70
      have d71 := hy.cell c71
      have d72 := hy.cell c72
      have d73 := hy.cell c73
      have d74 := hy.cell c74
      have d75 := hy.cell c75
      have d76 := hy.cell c76
      have d77 := hy.cell c77
      have HY := Lib.hid (HZ.out.trans hy)
      clear hwq hy c70 c71 c72 c73 c74 c75 c76 c77 HZ
      have e1 : t1 [x0, x1, x2, x3, x4, x5, x6, x7] kk ww = (x7 + bits .xor .u32 (bits .xor .u32 (rot 6 x4) (rot 11 x4)) (rot 25 x4) + bits .xor .u32 (bits .and .u32 x4 x5) (bits .and .u32 (bits .xor .u32 IntKind.u32.max x4) x6) + kk + ww) % 4294967296 := rfl
      have e2 : t2 [x0, x1, x2, x3, x4, x5, x6, x7] = (bits .xor .u32 (bits .xor .u32 (rot 2 x0) (rot 13 x0)) (rot 22 x0) + bits .xor .u32 (bits .xor .u32 (bits .and .u32 x0 x1) (bits .and .u32 x0 x2)) (bits .and .u32 x1 x2)) % 4294967296 := rfl
      rw [← e1, ← e2]
      clear e1 e2
      have HS2 := Lib.hid (show run [a0, a1, a2, a3, a4, a5, a6, a7] ks ws (k + 1) = [add (t1 [x0, x1, x2, x3, x4, x5, x6, x7] kk ww) (t2 [x0, x1, x2, x3, x4, x5, x6, x7]), x0, x1, x2, add x3 (t1 [x0, x1, x2, x3, x4, x5, x6, x7] kk ww), x4, x5, x6] from HS.out)
      generalize t1 [x0, x1, x2, x3, x4, x5, x6, x7] kk ww = T1 at HS2 ⊢
      generalize t2 [x0, x1, x2, x3, x4, x5, x6, x7] = T2 at HS2 ⊢
      clear HS
      go_wp2_with (refine wpList_store_row rfl 53 (Operand.tmp 7) (Operand.tmp 98) rfl _ ([add T1 T2, x0, x1, x2, add x3 T1, x4, x5, x6].map (Value.int .u32)).toArray rfl (by simp [Act.eval, add]) 53 _ (S7'.out.up HY.out) (by rw [info53]; simp) (by simp) (all_one _) ?_)
      refine ⟨⟨k + 1, by omega, by go_num, ?_, ⟨?_, ?_⟩, ⟨?_, ?_⟩, ?_⟩, by simp [intOf]; omega⟩
      · rw [HS2.out]; exact Arr.row (S7'.out.up HY.out) [add T1 T2, x0, x1, x2, add x3 T1, x4, x5, x6]
      · exact (S5.out.up HY.out).setRow_other _ (by omega)
      · exact (S6.out.up HY.out).setRow_other _ (by omega)
      · exact (S2.out.up HY.out).setRow_other _ (by omega)
      · exact (S4.out.up HY.out).setRow_other _ (by omega)
      · exact (SU.out.trans HY.out).setRow _ _ (by omega)
    · have hkk : k = 64 := by omega
      have r7 := S7.out
      rw [hkk] at r7
      obtain ⟨R, hR⟩ : ∃ R, run [a0, a1, a2, a3, a4, a5, a6, a7] ks ws 64 = R := ⟨_, rfl⟩
      have HR8 := Lib.hid (show R.length = 8 by
        obtain ⟨x0, x1, x2, x3, x4, x5, x6, x7, hx, _⟩ := run_eight ks ws 64 hu
        rw [← hR, hx]; rfl)
      rw [hR] at r7
      have HRR := Lib.hid hR
      have T7 := Lib.hid r7
      rename World => w4
      clear hkk r7 hR S7 S5 S6
      go_wp2
      go_loopw [100] (fun i wr => ∃ (k : Nat) (ys : List Int), k ≤ 8 ∧ i = .int .i64 k ∧ ys.length = 8 ∧ (∀ j, j < 8 → ys.getD j 0 = if j < k then add ([a0, a1, a2, a3, a4, a5, a6, a7].getD j 0) (R.getD j 0) else [a0, a1, a2, a3, a4, a5, a6, a7].getD j 0) ∧
        Arr 53 wr w.heap.size ys ∧ Arr 53 wr W3.heap.size R ∧ Arr 53 wr (w.heap.size + 1) [0, 0, 0, 0, 0, 0, 0, 0] ∧ Up w wr) (fun i _ => 8 - (intOf i).toNat)
      case atStart => exact ⟨0, _, by omega, rfl, rfl, fun j hj => by rw [if_neg (by omega)], S2.out, T7.out, S4.out, SU.out⟩
      case round =>
        obtain ⟨k, ys, hk8, rfl, hy8, hys, r2, r7, r4, ru⟩ := hrel
        have Q2 := Lib.hid r2
        have Q7 := Lib.hid r7
        have Q4 := Lib.hid r4
        have QU := Lib.hid ru
        have QY := Lib.hid hys
        have QL := Lib.hid hy8
        clear r2 r7 r4 ru hys hy8 S2 T7 S4 SU
        by_cases hlt2 : k < 8
        · have c2 := Q2.out.cell k (by have := QL.out; omega)
          have c7 := Q7.out.cell k (by have := HR8.out; omega)
          have f2 := Q2.out.frozen k
          have hyk := QY.out k hlt2
          rw [if_neg (by omega)] at hyk
          rw [hyk] at c2
          obtain ⟨p, hp⟩ : ∃ p, [a0, a1, a2, a3, a4, a5, a6, a7].getD k 0 = p := ⟨_, rfl⟩
          obtain ⟨q, hq⟩ : ∃ q, R.getD k 0 = q := ⟨_, rfl⟩
          rw [hp] at c2
          rw [hq] at c7
          have HP := Lib.hid hp
          have HQ := Lib.hid hq
          clear hyk hp hq
          have hk1 : (0 : Int) ≤ (k : Int) := by omega
          have hk2 : (k : Int) < 8 := by omega
          go_wp2_with fail
          go_region
          all_goals go_wp2
          refine ⟨⟨k + 1, ys.set k (add p q), by omega, by go_num, by simp [QL.out], ?_, ?_, ?_, ?_, ?_⟩, by simp [intOf]; omega⟩
          · intro j hj
            rw [List.getD_eq_getElem?_getD, List.getElem?_set]
            by_cases e : k = j
            · subst e
              rw [if_pos rfl, if_pos (by rw [QL.out]; omega), if_pos (by omega), HP.out, HQ.out]; rfl
            · rw [if_neg e, ← List.getD_eq_getElem?_getD, QY.out j hj]
              by_cases e2 : j < k
              · rw [if_pos e2, if_pos (by omega)]
              · rw [if_neg e2, if_neg (by omega)]
          · exact (Q2.out.setCell k (by rw [QL.out]; omega) (add p q)).up (Up.drew _)
          · exact (Q7.out.setCell_other k _ (by omega)).up (Up.drew _)
          · exact (Q4.out.setCell_other k _ (by omega)).up (Up.drew _)
          · exact (QU.out.setNew _ _ (Nat.le_refl _)).trans (Up.drew _)
        · have hys : ys = List.zipWith add [a0, a1, a2, a3, a4, a5, a6, a7] R := by
            refine List.ext_getElem (by simp [QL.out, HR8.out]) fun j h1 h2 => ?_
            have := QY.out j (by rw [← QL.out]; exact h1)
            rw [if_pos (by have := QL.out; omega), List.getD_eq_getElem?_getD, List.getElem?_eq_getElem h1] at this
            simp only [Option.getD_some] at this
            rw [this, List.getElem_zipWith]
            congr 1
            · rw [List.getD_eq_getElem?_getD, List.getElem?_eq_getElem]; rfl
            · rw [List.getD_eq_getElem?_getD, List.getElem?_eq_getElem]; rfl
          have HYS := Lib.hid hys
          have HY8 := Lib.hid (show (Try.prog.info? 53).map (·.size) = some (ys.map (Value.int .u32)).toArray.size by rw [info53]; simp [QL.out])
          clear hys
          go_wp2_with (first
            | (refine wpList_load_row rfl 53 (Operand.tmp 2) rfl _ rfl 53 _ (0, 0) _ Q2.out Try.underlying53 rfl HY8.out ?_)
            | (refine wpList_store_row rfl 53 (Operand.tmp 4) (Operand.tmp 112) rfl _ (ys.map (Value.int .u32)).toArray rfl rfl 53 _ Q4.out HY8.out (by simp [QL.out]) (all_one _) ?_))
          refine bodyPost_ret (results_cell_row rfl _ _ _ 53 _ (0, 0) _ rfl (Arr.row Q4.out ys) Try.underlying53 rfl HY8.out) rfl ⟨?_, ?_⟩
          · rw [HYS.out]; simp [HRR.out]
          · exact QU.out.setRow _ _ (by omega)
end Go.Proofs.Yteeibpeefhaoiaa
