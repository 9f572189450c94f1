/- The law RingNearer returns true for every input: the walk. No condition. -/
import Derived.Test.YteeibpeefhaoiaaRingE
import Derived.Deep.DeepCutAuto
namespace Go.Proofs.Yteeibpeefhaoiaa
open Go.RowKit
set_option linter.unusedVariables false

/-- A number taken to a node's. -/
def md (x : Int) : Int := wrap64 ((IntKind.u64.wrap x).tmod 8)
theorem md_in (x : Int) : 0 ≤ md x ∧ md x < 8 := by
  obtain ⟨r, e, h⟩ := umod x 8 (by omega) (by omega)
  unfold md; rw [e]; exact h

theorem nr_in {t a b : Int} (ht : 0 ≤ t ∧ t < 4) (ha : 0 ≤ a ∧ a < 8) (hb : 0 ≤ b ∧ b < 8) : nr t a b = decide (gp t a < gp t b) := by
  unfold nr; rw [inB_true.2 ht, inB_true.2 ha, inB_true.2 hb]; simp

theorem ow_least {t : Int} (ht : 0 ≤ t ∧ t < 4) (l : List Int) : ∀ best, (0 ≤ best ∧ best < 8) → (∀ n ∈ l, 0 ≤ n ∧ n < 8) →
    gp t (ow t best l) ≤ gp t best ∧ (∀ n ∈ l, gp t (ow t best l) ≤ gp t n) ∧ (ow t best l = best ∨ ow t best l ∈ l) := by
  induction l with
  | nil => intro best _ _; exact ⟨Int.le_refl _, by simp, .inl rfl⟩
  | cons m l ih =>
    intro best hb hl
    have hm := hl m (List.mem_cons_self ..)
    have hl' : ∀ n ∈ l, 0 ≤ n ∧ n < 8 := fun n hn => hl n (List.mem_cons_of_mem _ hn)
    simp only [ow]
    rw [nr_in ht hm hb]
    by_cases h : gp t m < gp t best
    · rw [if_pos (decide_eq_true h)]
      obtain ⟨h1, h2, h3⟩ := ih m hm hl'
      refine ⟨by omega, ?_, ?_⟩
      · intro n hn
        rcases List.mem_cons.1 hn with rfl | hn
        · exact h1
        · exact h2 n hn
      · rcases h3 with h3 | h3
        · exact .inr (by rw [h3]; exact List.mem_cons_self ..)
        · exact .inr (List.mem_cons_of_mem _ h3)
    · rw [if_neg (by simpa using h)]
      obtain ⟨h1, h2, h3⟩ := ih best hb hl'
      refine ⟨h1, ?_, ?_⟩
      · intro n hn
        rcases List.mem_cons.1 hn with rfl | hn
        · omega
        · exact h2 n hn
      · exact h3.imp id (List.mem_cons_of_mem _)

theorem gp_inj {t a b : Int} (ht : 0 ≤ t ∧ t < 4) (ha : 0 ≤ a ∧ a < 8) (hb : 0 ≤ b ∧ b < 8) (h : gp t a = gp t b) : a = b := by
  have : ∀ t : Fin 4, ∀ a b : Fin 8, gp t.val a.val = gp t.val b.val → a = b := by decide
  have k := this ⟨t.toNat, by omega⟩ ⟨a.toNat, by omega⟩ ⟨b.toNat, by omega⟩
  simp only [Int.toNat_of_nonneg ht.1, Int.toNat_of_nonneg ha.1, Int.toNat_of_nonneg hb.1] at k
  have k2 := k h
  simp only [Fin.mk.injEq] at k2
  omega

theorem map_getD (f : Int → Int) (xs : List Int) (k : Nat) (h : k < xs.length) : (xs.map f).getD k 0 = f (xs.getD k 0) := by
  simp [List.getD_eq_getElem?_getD, List.getElem?_eq_getElem h]

/-- What the law tests first, of three nodes. -/
theorem orders {t a b c : Int} (ht : 0 ≤ t ∧ t < 4) (ha : 0 ≤ a ∧ a < 8) (hb : 0 ≤ b ∧ b < 8) (hc : 0 ≤ c ∧ c < 8) :
    ((nr t a b && nr t b a) = false) ∧ ((a == b) = true ∨ nr t a b = true ∨ nr t b a = true) ∧ (((a == b) && nr t a b) = false) ∧ (nr t a b = true → nr t b c = true → nr t a c = true) := by
  rw [nr_in ht ha hb, nr_in ht hb ha, nr_in ht hb hc, nr_in ht ha hc]
  refine ⟨?_, ?_, ?_, ?_⟩
  · by_cases h : gp t a < gp t b
    · rw [decide_eq_true h, decide_eq_false (by omega)]; rfl
    · rw [decide_eq_false h]; rfl
  · by_cases h : a = b
    · exact .inl (beq_iff_eq.2 h)
    · refine .inr ?_
      have : gp t a ≠ gp t b := fun e => h (gp_inj ht ha hb e)
      by_cases h1 : gp t a < gp t b
      · exact .inl (decide_eq_true h1)
      · exact .inr (decide_eq_true (by omega))
  · by_cases h : a = b
    · subst h; rw [decide_eq_false (by omega)]; simp
    · rw [beq_eq_false_iff_ne.2 h]; rfl
  · intro h1 h2
    have := of_decide_eq_true h1
    have := of_decide_eq_true h2
    exact decide_eq_true (by omega)

theorem ownV_yes {t : Int} (ht : 0 ≤ t ∧ t < 4) {ns : List Int} (hn : ∀ n ∈ ns, 0 ≤ n ∧ n < 8) (h0 : 0 < ns.length) :
    ∃ o, ownV t ns = .tuple #[.int .i64 o, .int .i64 0] ∧ (0 ≤ o ∧ o < 8) ∧ o ∈ ns ∧ ∀ n ∈ ns, nr t n o = false := by
  cases ns with
  | nil => simp at h0
  | cons x l =>
    have hx := hn x (List.mem_cons_self ..)
    obtain ⟨h1, h2, h3⟩ := ow_least ht (x :: l) x hx hn
    have ho := ow_in t (x :: l) x hx hn
    refine ⟨ow t x (x :: l), ?_, ho, ?_, ?_⟩
    · have ha : allB (x :: l) = true := List.all_eq_true.2 fun n hm => inB_true.2 (hn n hm)
      unfold ownV; rw [inB_true.2 ht, ha]; rfl
    · rcases h3 with h3 | h3
      · rw [h3]; exact List.mem_cons_self ..
      · exact h3
    · intro n hm
      rw [nr_in ht (hn n hm) ho]
      exact decide_eq_false (by have := h2 n hm; omega)

set_option maxRecDepth 100000 in
set_option maxHeartbeats 4000000 in
theorem nearer_yes (t a b c : Int) (v : Value) (xs : List Int) (w : World) (h0 : 0 < xs.length) (h20 : xs.length ≤ 20) (hv : Ints w v xs) :
    Calls Try.prog 4 #[.int .i64 t, .int .i64 a, .int .i64 b, .int .i64 c, v] w (Ret (.bool true) w) := by
  obtain ⟨t', et, ht⟩ := umod t 4 (by omega) (by omega)
  obtain ⟨a', ea, ha⟩ := umod a 8 (by omega) (by omega)
  obtain ⟨b', eb, hb⟩ := umod b 8 (by omega) (by omega)
  obtain ⟨c', ec, hc⟩ := umod c 8 (by omega) (by omega)
  have HO := Lib.hid (orders ht ha hb hc)
  obtain ⟨ns, hns⟩ : ∃ ns, xs.map md = ns := ⟨_, rfl⟩
  have hnl : ns.length = xs.length := by rw [← hns]; simp
  have hnk : ∀ k, k < xs.length → ns.getD k 0 = md (xs.getD k 0) := fun k hk => by rw [← hns]; exact map_getD md xs k hk
  have hnm : ∀ n ∈ ns, 0 ≤ n ∧ n < 8 := by
    intro n hn
    rw [← hns] at hn
    obtain ⟨x, _, rfl⟩ := List.mem_map.1 hn
    exact md_in x
  obtain ⟨o, hov, hob, hom, hon⟩ := ownV_yes ht hnm (by omega)
  rcases hv with ⟨rfl, _⟩ | ⟨_, hl, b0, off, cap, rfl, hcell⟩
  · simp at h0
  have HT := Lib.hid ht
  have HOV := Lib.hid hov
  have HOM := Lib.hid hom
  have HON := Lib.hid hon
  have HNL := Lib.hid hnl
  have HNK := Lib.hid hnk
  have ET := Lib.hid et
  have EA := Lib.hid ea
  have EB := Lib.hid eb
  have EC := Lib.hid ec
  have HC := Lib.hid hcell
  have e1 : decide (20 < (xs.length : Int)) = false := decide_eq_false (by omega)
  have e2 : ((xs.length : Int) == 0) = false := by rw [beq_eq_false_iff_ne]; omega
  clear ht ha hb hc et ea eb ec hns hnl hnk hnm hov hob hom hon hcell
  obtain ⟨x, hx⟩ : ∃ x, nr t' a' b' = x := ⟨_, rfl⟩
  obtain ⟨y, hy⟩ : ∃ y, nr t' b' c' = y := ⟨_, rfl⟩
  obtain ⟨z, hz⟩ : ∃ z, nr t' a' c' = z := ⟨_, rfl⟩
  obtain ⟨u, hu⟩ : ∃ u, nr t' b' a' = u := ⟨_, rfl⟩
  have HX := Lib.hid hx
  have HY := Lib.hid hy
  have HZ := Lib.hid hz
  have HUU := Lib.hid hu
  have HO2 := Lib.hid (show ((x && u) = false) ∧ ((a' == b') = true ∨ x = true ∨ u = true) ∧ (((a' == b') && x) = false) ∧ (x = true → y = true → z = true) by
    have := HO.out; rw [hx, hy, hz, hu] at this; exact this)
  clear hx hy hz hu HO
  go_enter Try.func4, Try.ntmps4
  go_wp2_with fail
  rw [ET.out, EA.out, EB.out, EC.out]
  refine (nearer_ _ _ _ _).mono ?_
  rintro e w1 ⟨rfl, u1⟩
  rw [HX.out]
  go_wp2_with fail
  refine (nearer_ _ _ _ _).mono ?_
  rintro e w2 ⟨rfl, u2⟩
  rw [HY.out]
  go_wp2_with fail
  refine (nearer_ _ _ _ _).mono ?_
  rintro e w3 ⟨rfl, u3⟩
  rw [HZ.out]
  have U3 := Lib.hid ((u1.trans u2).trans u3)
  clear u1 u2 u3
  go_upto_region 5 with fail
  go_cut [96] (fun s wx => s = .bool false ∧ Up w wx)
  case first =>
    have h := HO2.out
    by_cases hab : a' = b'
    · subst hab
      obtain rfl : x = false := by simpa using h.2.2.1
      clear h
      go_wp2
      all_goals (go_meet; exact ⟨rfl, U3.out⟩)
    · have e := beq_eq_false_iff_ne.2 hab
      have e' : (a' != b') = true := by rw [bne_iff_ne]; exact hab
      rw [e] at h
      clear hab
      cases x <;> cases u <;> (try (exfalso; revert h; cases y <;> cases z <;> decide))
      · clear h
        go_wp2_with fail
        refine (nearer_ _ _ _ _).mono ?_
        rintro e w4 ⟨rfl, u4⟩
        rw [HUU.out]
        go_wp2
        all_goals (go_meet; exact ⟨rfl, U3.out.trans u4⟩)
      · cases y <;> cases z <;> (try (exfalso; revert h; decide))
        all_goals
          clear h
          go_wp2_with fail
          refine (nearer_ _ _ _ _).mono ?_
          rintro e w4 ⟨rfl, u4⟩
          rw [HUU.out]
          go_wp2
          go_meet
          exact ⟨rfl, U3.out.trans u4⟩
  case rest =>
    obtain ⟨rfl, hup⟩ := hcut
    have HU := Lib.hid hup
    clear hup
    go_wp2
    go_loopw [14, 15] (fun s i wr => ∃ k : Nat, k ≤ xs.length ∧ i = .int .i64 k ∧ Own wr w.heap.size s (ns.take k) ∧ Up w wr) (fun _ i _ => xs.length - (intOf i).toNat)
    case atStart => exact ⟨0, Nat.zero_le _, rfl, Own.nil _ _, HU.out⟩
    case round =>
      obtain ⟨k, hk, rfl, hown, hu⟩ := hrel
      have HW := Lib.hid hown
      have HU1 := Lib.hid hu
      clear hown hu
      by_cases hlt : k < xs.length
      · have hcell := HU1.out.cell (HC.out k hlt)
        obtain ⟨q, hq⟩ : ∃ q, xs.getD k 0 = q := ⟨_, rfl⟩
        rw [hq] at hcell
        have htake := take_getD ns k (by rw [HNL.out]; exact hlt)
        rw [HNK.out k hlt, hq] at htake
        have HTK := Lib.hid htake
        have HL := Lib.hid (show (ns.take k).length ≤ 20 by rw [List.length_take, HNL.out]; omega)
        clear hq htake
        go_wp2_with (at_builtin; refine append_ints rfl _ _ rfl w.heap.size _ _ (ns.take k) [md q] rfl rfl (HW.out.alloc _) (ints_new _ [md q] _ _ (by simp) (by simp)) (by simp) (by have := HL.out; simp; omega) (by have := HU1.out.out.size; simp; omega) (HU1.out.trans (Up.alloc _ _)) (Nat.le_refl _) ?_)
        intro v' w' hown' hup'
        rw [← HTK.out] at hown'
        have HW' := Lib.hid hown'
        have HU' := Lib.hid hup'
        clear hown' hup'
        go_wp2
        exact ⟨⟨k + 1, by omega, by go_num, HW'.out, HU'.out⟩, by simp [intOf]; omega⟩
      · have hkk : k = xs.length := by omega
        have hown := HW.out
        rw [show ns.take k = ns from List.take_of_length_le (by rw [HNL.out]; omega)] at hown
        rcases hown.ints with ⟨he, _⟩ | ⟨hn0, hnl, b1, off1, c1, rfl, hc1⟩
        · exfalso; rw [he] at hown; have := HNL.out; rw [he] at this; simp at this; omega
        have HI := Lib.hid hown.ints
        have HC1 := Lib.hid hc1
        clear hown hkk hc1
        go_wp2_with fail
        refine (owner_ _ _ ns _ HI.out).mono ?_
        rintro e w5 ⟨rfl, u5⟩
        rw [HOV.out]
        have HU5 := Lib.hid (HU1.out.trans u5)
        have HC5 := Lib.hid (show ∀ j, j < ns.length → w5.cell? ⟨b1, off1 + j, none⟩ = some (.int .i64 (ns.getD j 0)) from fun j hj => u5.cell (HC1.out j hj))
        clear u5
        go_wp2
        go_loopw [18, 19] (fun m i wr => ∃ k : Nat, k ≤ ns.length ∧ i = .int .i64 k ∧ m = .bool ((ns.take k).contains o) ∧ Up w5 wr) (fun _ i _ => ns.length - (intOf i).toNat)
        case atStart => exact ⟨0, Nat.zero_le _, rfl, rfl, Up.refl _⟩
        case round =>
          obtain ⟨k, hk, rfl, rfl, hu⟩ := hrel
          have HU6 := Lib.hid hu
          clear hu
          by_cases hlt2 : k < ns.length
          · have hcell := HU6.out.cell (HC5.out k hlt2)
            obtain ⟨q, hq⟩ : ∃ q, ns.getD k 0 = q := ⟨_, rfl⟩
            rw [hq] at hcell
            have hqm : q ∈ ns := by
              rw [← hq, List.getD_eq_getElem?_getD, List.getElem?_eq_getElem hlt2]
              exact List.getElem_mem hlt2
            have HNR := Lib.hid (HON.out q hqm)
            have hcon : (ns.take (k + 1)).contains o = ((ns.take k).contains o || (q == o)) := by
              rw [take_getD ns k hlt2, hq, List.contains_append]
              simp only [List.contains_cons, List.contains_nil, Bool.or_false]
              rw [BEq.comm]
            generalize (ns.take k).contains o = mt at *
            have HCO := Lib.hid hcon
            clear hq hqm hcon
            cases mt with
            | false =>
              go_wp2_with fail
              refine (nearer_ _ _ _ _).mono ?_
              rintro e w7 ⟨rfl, u7⟩
              rw [HNR.out]
              go_wp2
              exact ⟨⟨k + 1, by omega, by go_num, by rw [HCO.out]; simp, HU6.out.trans u7⟩, by simp [intOf]; omega⟩
            | true =>
              go_wp2_with fail
              refine (nearer_ _ _ _ _).mono ?_
              rintro e w7 ⟨rfl, u7⟩
              rw [HNR.out]
              go_wp2
              exact ⟨⟨k + 1, by omega, by go_num, by rw [HCO.out]; simp, HU6.out.trans u7⟩, by simp [intOf]; omega⟩
          · have hkk : k = ns.length := by omega
            rw [show (ns.take k).contains o = true by rw [List.take_of_length_le (by omega)]; simpa using HOM.out]
            clear hkk
            go_wp2_with fail
            refine (wakes3 _).mono ?_
            rintro e w7 ⟨rfl, u7⟩
            go_wp2
            go_ret
            exact ⟨rfl, (HU5.out.trans HU6.out).trans u7⟩

theorem nearer_any (t a b c : Int) (A : Option Addr) (len cap : Nat) (xs : List Int) (w : World) (hv : Ints w (.slice A len cap) xs) :
    Calls Try.prog 4 #[.int .i64 t, .int .i64 a, .int .i64 b, .int .i64 c, .slice A len cap] w (Ret (.bool true) w) := by
  by_cases h : 0 < xs.length ∧ xs.length ≤ 20
  · exact nearer_yes t a b c _ xs w h.1 h.2 hv
  · rcases hv with ⟨rfl, A', c', e⟩ | ⟨h0, hl, b0, off, cap', e, _⟩
    · obtain ⟨rfl, rfl, rfl⟩ := by simpa using e
      clear h
      go_enter Try.func4, Try.ntmps4
      go_wp2
      go_ret
      exact ⟨rfl, Up.refl _⟩
    · obtain ⟨rfl, rfl, rfl⟩ := by simpa using e
      have e1 : decide (20 < (xs.length : Int)) = true := decide_eq_true (by omega)
      clear h e
      go_enter Try.func4, Try.ntmps4
      go_wp2
      go_ret
      exact ⟨rfl, Up.refl _⟩

end Go.Proofs.Yteeibpeefhaoiaa
