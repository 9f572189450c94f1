/- The law RingTable returns true for every input: the walk. No condition. -/
import Derived.Test.YteeibpeefhaoiaaRingTa
namespace Go.Proofs.Yteeibpeefhaoiaa
open Go.RowKit
set_option linter.unusedVariables false

set_option maxRecDepth 100000 in
set_option maxHeartbeats 8000000 in
theorem table_law (n t m : Int) (w : World) : Calls Try.prog 11 #[.int .i64 n, .int .i64 t, .int .i64 m] w (Ret (.bool true) w) := by
  obtain ⟨t', et, ht⟩ := umod t 4 (by omega) (by omega)
  obtain ⟨n', en, hn⟩ := umod n 8 (by omega) (by omega)
  obtain ⟨m', em, hm⟩ := umod m 8 (by omega) (by omega)
  have hs1 : ∀ W, (Instr.slice 9 (.string ds) (some (.int .i64 n')) (some (.int .i64 (n' + 1))) none).run Try.prog W = .ok (.string (ds.extract n'.toNat (n' + 1).toNat)) W := fun W =>
    run_slice_string W 9 ds .i64 .i64 _ _ Try.underlying9 (by omega) (by omega) (by rw [show ds.size = 8 from rfl]; omega)
  have hs2 : ∀ W, (Instr.slice 9 (.string ds) (some (.int .i64 t')) (some (.int .i64 (t' + 1))) none).run Try.prog W = .ok (.string (ds.extract t'.toNat (t' + 1).toNat)) W := fun W =>
    run_slice_string W 9 ds .i64 .i64 _ _ Try.underlying9 (by omega) (by omega) (by rw [show ds.size = 8 from rfl]; omega)
  have hz1 : (ds.extract n'.toNat (n' + 1).toNat).size = 1 := by
    rcases eight hn with h | h | h | h | h | h | h | h <;> subst h <;> rfl
  have hz2 : (ds.extract t'.toNat (t' + 1).toNat).size = 1 := by
    rcases four ht with h | h | h | h <;> subst h <;> rfl
  have HNN := Lib.hid (show (⟨#[110]⟩ : ByteArray) ++ ds.extract n'.toNat (n' + 1).toNat = nName n' from rfl)
  have HTT := Lib.hid (show (⟨#[116]⟩ : ByteArray) ++ ds.extract t'.toNat (t' + 1).toNat = tName t' from rfl)
  have HNH := Lib.hid (nName_head hn)
  have HTH := Lib.hid (tName_head ht)
  have HNS := Lib.hid (nName_size hn)
  have HTS := Lib.hid (tName_size ht)
  have HNT := nk_tk hn ht
  have e1 : IntKind.i64.wrap (n' + 1) = n' + 1 := by rw [IntKind.wrap_i64]; omega
  have e2 : IntKind.i64.wrap (t' + 1) = t' + 1 := by rw [IntKind.wrap_i64]; omega
  have hij : (n' = m' ∧ nk n' = nk m') ∨ (n' ≠ m' ∧ nk n' ≠ nk m') := by
    by_cases e : n' = m'
    · exact .inl ⟨e, by rw [e]⟩
    · exact .inr ⟨e, fun h => e (nk_inj hn hm h)⟩
  have HT := Lib.hid ht
  have HN := Lib.hid hn
  have HM := Lib.hid hm
  have ET := Lib.hid et
  have EN := Lib.hid en
  have EM := Lib.hid em
  have HHN := Lib.hid (nName_head hn)
  have HHT := Lib.hid (tName_head ht)
  have HIJ := Lib.hid hij
  have HD := Lib.hid (show (⟨#[48, 49, 50, 51, 52, 53, 54, 55]⟩ : ByteArray) = ds from rfl)
  clear ht hn hm et en em hij
  generalize nName n' = NN at *
  generalize tName t' = TT at *
  generalize ds.extract n'.toNat (n' + 1).toNat = D1 at *
  generalize ds.extract t'.toNat (t' + 1).toNat = D2 at *
  generalize ds = D at *
  rw [← HD.out] at hs1 hs2
  have hcv1 := fun W' => conv_bytes W' NN
  have hcv2 := fun W' => conv_bytes W' TT
  go_enter Try.func11, Try.ntmps11
  go_wp2_with fail
  rw [ET.out, EN.out, EM.out]
  refine (node_ _ _).mono ?_
  rintro e w1 ⟨rfl, hu1⟩
  rw [show ok1 (inB n' 8) (nk n') = .tuple #[.int .i64 (nk n'), .int .i64 0] by rw [inB_true.2 HN.out]; rfl]
  go_wp2_with fail
  refine (node_ _ _).mono ?_
  rintro e w2 ⟨rfl, hu2⟩
  rw [show ok1 (inB m' 8) (nk m') = .tuple #[.int .i64 (nk m'), .int .i64 0] by rw [inB_true.2 HM.out]; rfl]
  go_wp2_with fail
  refine (topic_ _ _).mono ?_
  rintro e w3 ⟨rfl, hu3⟩
  rw [show ok1 (inB t' 4) (tk t') = .tuple #[.int .i64 (tk t'), .int .i64 0] by rw [inB_true.2 HT.out]; rfl]
  generalize nk n' = x at *
  generalize nk m' = y at *
  generalize tk t' = z at *
  have hnz : (x != z) = true := bne_iff_ne.2 HNT
  have HU3 := Lib.hid ((hu1.trans hu2).trans hu3)
  clear hu1 hu2 hu3
  go_wp2_with fail
  rw [HNN.out, hcv1 w3]
  go_wp2_with fail
  refine (head_ _ (strB NN) _ (Rd.bytes w3 5 NN ?_) (strB_in NN) ?_).mono ?_
  · rw [HNS.out]; omega
  · rw [strB_len, HNS.out]; omega
  rintro e w4 ⟨rfl, hu4⟩
  rw [HNH.out]
  have HU4 := Lib.hid (HU3.out.trans ((Up.bytes w3 5 NN).trans hu4))
  clear hu4 HU3 hcv1
  go_wp2_with fail
  rw [HTT.out, hcv2 w4]
  go_wp2_with fail
  refine (head_ _ (strB TT) _ (Rd.bytes w4 5 TT ?_) (strB_in TT) ?_).mono ?_
  · rw [HTS.out]; omega
  · rw [strB_len, HTS.out]; omega
  rintro e w5 ⟨rfl, hu5⟩
  rw [HTH.out]
  have HU5 := Lib.hid (HU4.out.trans ((Up.bytes w4 5 TT).trans hu5))
  clear hu5 HU4 hcv2
  have hij2 : (n' = m' ∧ x = y) ∨ ((n' == m') = false ∧ (x == y) = false) := by
    rcases HIJ.out with h | ⟨hi, hj⟩
    · exact .inl h
    · exact .inr ⟨beq_eq_false_iff_ne.2 hi, beq_eq_false_iff_ne.2 hj⟩
  rcases hij2 with ⟨rfl, rfl⟩ | ⟨hi, hj⟩
  all_goals
    clear HIJ
    go_wp2_with fail
    refine (wakes3 w5).mono ?_
    rintro e w6 ⟨rfl, hu6⟩
    have HU6 := Lib.hid (HU5.out.trans hu6)
    clear hu6 HU5
    go_wp2
    go_ret
    exact ⟨rfl, HU6.out⟩

end Go.Proofs.Yteeibpeefhaoiaa
