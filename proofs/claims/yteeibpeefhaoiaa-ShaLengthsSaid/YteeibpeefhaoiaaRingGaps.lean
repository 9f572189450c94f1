/- The law RingGaps returns true for every input: the walk. No condition. -/
import Derived.Test.YteeibpeefhaoiaaRingD
namespace Go.Proofs.Yteeibpeefhaoiaa
open Go.RowKit
set_option linter.unusedVariables false

theorem umod (a : Int) (m : Int) (h0 : 0 < m) (h1 : m ≤ 4611686018427387904) :
    ∃ r, wrap64 ((IntKind.u64.wrap a).tmod m) = r ∧ 0 ≤ r ∧ r < m := by
  refine ⟨_, rfl, ?_⟩
  have hw : 0 ≤ IntKind.u64.wrap a := by
    simp [IntKind.wrap, IntKind.signed, IntKind.bits]
    omega
  rw [Int.tmod_eq_emod_of_nonneg hw]
  have h2 := Int.emod_nonneg (IntKind.u64.wrap a) (show m ≠ 0 by omega)
  have h3 := Int.emod_lt_of_pos (IntKind.u64.wrap a) h0
  unfold wrap64
  omega

/-- Slices of ints that the call lays itself. -/
theorem ints_new (w : World) (xs : List Int) (ty : TypeId) (c : Nat) (h0 : 0 < xs.length) (h1 : xs.length ≤ 9223372036854775807) :
    Ints (w.alloc (.cells (xs.map (Value.int .i64)).toArray ty)) (.slice (some ⟨w.heap.size, 0, none⟩) xs.length c) xs := by
  refine .inr ⟨h0, h1, _, _, _, rfl, fun j hj => ?_⟩
  simp [List.getD_eq_getElem?_getD, List.getElem?_eq_getElem hj]

theorem own8 {t : Int} (ht : 0 ≤ t ∧ t < 4) : ∃ o, ownV t [0, 1, 2, 3, 4, 5, 6, 7] = .tuple #[.int .i64 o, .int .i64 0] ∧ (0 ≤ o ∧ o < 8) ∧ ∀ a, 0 ≤ a ∧ a < 8 → a = o ∨ btw (tk t) (nk a) (nk o) = false := by
  refine ⟨ow t 0 [0, 1, 2, 3, 4, 5, 6, 7], ?_, ?_, ?_⟩
  · rcases four ht with rfl | rfl | rfl | rfl <;> kernel_rfl
  · rcases four ht with rfl | rfl | rfl | rfl <;> decide
  · intro a ha
    rcases four ht with rfl | rfl | rfl | rfl <;> rcases eight ha with rfl | rfl | rfl | rfl | rfl | rfl | rfl | rfl <;> decide

theorem gaps (t a b : Int) (w : World) : Calls Try.prog 6 #[.int .i64 t, .int .i64 a, .int .i64 b] w (Ret (.bool true) w) := by
  obtain ⟨t', et, ht⟩ := umod t 4 (by omega) (by omega)
  obtain ⟨a', ea, ha⟩ := umod a 8 (by omega) (by omega)
  obtain ⟨b', eb, hb⟩ := umod b 8 (by omega) (by omega)
  obtain ⟨o, ho, hob, hoa⟩ := own8 ht
  have HT := Lib.hid ht
  have HA := Lib.hid ha
  have HB := Lib.hid hb
  have HO := Lib.hid ho
  have HOB := Lib.hid hob
  have ET := Lib.hid et
  have EA := Lib.hid ea
  have EB := Lib.hid eb
  have hx := Lib.hid (show fr (tk t') (nk a') = gp t' a' from rfl)
  obtain ⟨x, hxe⟩ : ∃ x, gp t' a' = x := ⟨_, rfl⟩
  obtain ⟨y, hye⟩ : ∃ y, gp t' b' = y := ⟨_, rfl⟩
  have hnr := Lib.hid (show nr t' a' b' = decide (x < y) by unfold nr; rw [inB_true.2 ht, inB_true.2 ha, inB_true.2 hb, hxe, hye]; simp)
  have HX := Lib.hid hxe
  have HY := Lib.hid hye
  have h1 := hoa a' ha
  have h2 := hoa b' hb
  have hA : (a' == o) = true ∨ ((a' == o) = false ∧ btw (tk t') (nk a') (nk o) = false) := by
    by_cases e : a' = o
    · exact .inl (beq_iff_eq.2 e)
    · exact .inr ⟨beq_eq_false_iff_ne.2 e, h1.resolve_left e⟩
  have hB : (b' == o) = true ∨ ((b' == o) = false ∧ btw (tk t') (nk b') (nk o) = false) := by
    by_cases e : b' = o
    · exact .inl (beq_iff_eq.2 e)
    · exact .inr ⟨beq_eq_false_iff_ne.2 e, h2.resolve_left e⟩
  have hnn : (decide (x < y) == decide (x < y)) = true := by simp
  clear ht ha hb ho hob hoa et ea eb hxe hye h1 h2
  have front : ∀ (R : Ending → World → Prop), True := fun _ => trivial
  rcases hA with hA | ⟨hA, hA2⟩ <;> rcases hB with hB | ⟨hB, hB2⟩
  all_goals
    try (have HA2 := Lib.hid hA2; clear hA2)
    try (have HB2 := Lib.hid hB2; clear hB2)
    go_enter Try.func6, Try.ntmps6
    go_wp2_with fail
    rw [ET.out, EA.out, EB.out]
    refine (gap_ _ _ _).mono ?_
    rintro e w1 ⟨rfl, u1⟩
    rw [show ok1 (inB t' 4 && inB a' 8) (gp t' a') = .tuple #[.int .i64 x, .int .i64 0] by rw [inB_true.2 HT.out, inB_true.2 HA.out, HX.out]; rfl]
    go_wp2_with fail
    refine (gap_ _ _ _).mono ?_
    rintro e w2 ⟨rfl, u2⟩
    rw [show ok1 (inB t' 4 && inB b' 8) (gp t' b') = .tuple #[.int .i64 y, .int .i64 0] by rw [inB_true.2 HT.out, inB_true.2 HB.out, HY.out]; rfl]
    go_wp2_with fail
    refine (topic_ _ _).mono ?_
    rintro e w3 ⟨rfl, u3⟩
    rw [show ok1 (inB t' 4) (tk t') = .tuple #[.int .i64 (tk t'), .int .i64 0] by rw [inB_true.2 HT.out]; rfl]
    go_wp2_with fail
    refine (node_ _ _).mono ?_
    rintro e w4 ⟨rfl, u4⟩
    rw [show ok1 (inB a' 8) (nk a') = .tuple #[.int .i64 (nk a'), .int .i64 0] by rw [inB_true.2 HA.out]; rfl]
    go_wp2_with fail
    refine (node_ _ _).mono ?_
    rintro e w5 ⟨rfl, u5⟩
    rw [show ok1 (inB b' 8) (nk b') = .tuple #[.int .i64 (nk b'), .int .i64 0] by rw [inB_true.2 HB.out]; rfl]
    go_wp2_with fail
    refine (behind_ _ _ _ (tk_key HT.out) (nk_key HA.out)).mono ?_
    rintro e w6 ⟨rfl, u6⟩
    rw [show fr (tk t') (nk a') = x from HX.out]
    go_wp2_with fail
    refine (owner_ _ _ [0, 1, 2, 3, 4, 5, 6, 7] _ (ints_new _ [0, 1, 2, 3, 4, 5, 6, 7] _ _ (by decide) (by decide))).mono ?_
    rintro e w7 ⟨rfl, u7⟩
    rw [HO.out]
    go_wp2_with fail
    refine (node_ _ _).mono ?_
    rintro e w8 ⟨rfl, u8⟩
    rw [show ok1 (inB o 8) (nk o) = .tuple #[.int .i64 (nk o), .int .i64 0] by rw [inB_true.2 HOB.out]; rfl]
    have U8 := Lib.hid (((((((u1.trans u2).trans u3).trans u4).trans u5).trans u6).trans (Up.alloc _ _)).trans (u7.trans u8))
    clear u1 u2 u3 u4 u5 u6 u7 u8
    go_wp2_with fail
    refine (nearer_ _ _ _ _).mono ?_
    rintro e w9 ⟨rfl, u9⟩
    rw [hnr.out]
  · go_wp2_with fail
    refine (wakes3 _).mono ?_
    rintro e w10 ⟨rfl, u10⟩
    go_wp2
    go_ret
    exact ⟨rfl, (U8.out.trans u9).trans u10⟩
  · go_wp2_with fail
    refine (between_ _ _ _ _ (tk_key HT.out) (nk_key HB.out) (nk_key HOB.out)).mono ?_
    rintro e w10 ⟨rfl, u10⟩
    rw [HB2.out]
    go_wp2_with fail
    refine (wakes3 _).mono ?_
    rintro e w11 ⟨rfl, u11⟩
    go_wp2
    go_ret
    exact ⟨rfl, ((U8.out.trans u9).trans u10).trans u11⟩
  · go_wp2_with fail
    refine (between_ _ _ _ _ (tk_key HT.out) (nk_key HA.out) (nk_key HOB.out)).mono ?_
    rintro e w10 ⟨rfl, u10⟩
    rw [HA2.out]
    go_wp2_with fail
    refine (wakes3 _).mono ?_
    rintro e w11 ⟨rfl, u11⟩
    go_wp2
    go_ret
    exact ⟨rfl, ((U8.out.trans u9).trans u10).trans u11⟩
  · go_wp2_with fail
    refine (between_ _ _ _ _ (tk_key HT.out) (nk_key HA.out) (nk_key HOB.out)).mono ?_
    rintro e w10 ⟨rfl, u10⟩
    rw [HA2.out]
    go_wp2_with fail
    refine (between_ _ _ _ _ (tk_key HT.out) (nk_key HB.out) (nk_key HOB.out)).mono ?_
    rintro e w11 ⟨rfl, u11⟩
    rw [HB2.out]
    go_wp2_with fail
    refine (wakes3 _).mono ?_
    rintro e w12 ⟨rfl, u12⟩
    go_wp2
    go_ret
    exact ⟨rfl, (((U8.out.trans u9).trans u10).trans u11).trans u12⟩

end Go.Proofs.Yteeibpeefhaoiaa
