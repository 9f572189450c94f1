/- The law RingOwners returns true for every input: the walk. No condition. -/
import Derived.Test.YteeibpeefhaoiaaRingNearer
namespace Go.Proofs.Yteeibpeefhaoiaa
open Go.RowKit
set_option linter.unusedVariables false

theorem own_lit (w : World) (base : Nat) (hb : base ≤ w.heap.size) : Own (w.alloc (.cells #[] 3)) base (.slice (some ⟨w.heap.size, 0, none⟩) 0 0) [] := by
  have := World.ownsRow_lit (e := 3) (size := 1) (base := base) w #[] 0 hb (by unfold maxLen; omega) rfl
  exact this

theorem ow_app (t : Int) (l l' : List Int) : ∀ best, ow t best (l ++ l') = ow t (ow t best l) l' := by
  induction l with
  | nil => intro best; rfl
  | cons m l ih => intro best; exact ih _

/-- The owner as a number: of least gap, the only one. -/
theorem own_is {t : Int} (ht : 0 ≤ t ∧ t < 4) {ns : List Int} (hn : ∀ n ∈ ns, 0 ≤ n ∧ n < 8) (h0 : 0 < ns.length) {o : Int} (ho : o ∈ ns) (hl : ∀ n ∈ ns, gp t o ≤ gp t n) :
    ownV t ns = .tuple #[.int .i64 o, .int .i64 0] := by
  obtain ⟨o', h1, h2, h3, h4⟩ := ownV_yes ht hn h0
  rw [h1]
  have a := hl o' h3
  have b := h4 o ho
  rw [nr_in ht (hn o ho) h2] at b
  have b' := of_decide_eq_false b
  rw [gp_inj ht (hn o ho) h2 (by omega)]

theorem owners_law {t : Int} (ht : 0 ≤ t ∧ t < 4) {ps qs : List Int} (hp : ∀ n ∈ ps, 0 ≤ n ∧ n < 8) (hq : ∀ n ∈ qs, 0 ≤ n ∧ n < 8) (p0 : 0 < ps.length) (q0 : 0 < qs.length) :
    ∃ x y z, ownV t ps = .tuple #[.int .i64 x, .int .i64 0] ∧ ownV t qs = .tuple #[.int .i64 y, .int .i64 0] ∧ ownV t (ps ++ qs) = .tuple #[.int .i64 z, .int .i64 0] ∧
      ownV t [x, y] = .tuple #[.int .i64 z, .int .i64 0] ∧ ((z == x) = true ∨ ((z == x) = false ∧ (z == y) = true)) ∧ nr t x z = false ∧ nr t y z = false := by
  obtain ⟨x, x1, x2, x3, x4⟩ := ownV_yes ht hp p0
  obtain ⟨y, y1, y2, y3, y4⟩ := ownV_yes ht hq q0
  have hpq : ∀ n ∈ ps ++ qs, 0 ≤ n ∧ n < 8 := fun n h => (List.mem_append.1 h).elim (hp n) (hq n)
  obtain ⟨z, z1, z2, z3, z4⟩ := ownV_yes ht hpq (by simp; omega)
  have xl : ∀ n ∈ ps, gp t x ≤ gp t n := fun n h => by
    have := x4 n h; rw [nr_in ht (hp n h) x2] at this; have := of_decide_eq_false this; omega
  have yl : ∀ n ∈ qs, gp t y ≤ gp t n := fun n h => by
    have := y4 n h; rw [nr_in ht (hq n h) y2] at this; have := of_decide_eq_false this; omega
  have zl : ∀ n ∈ ps ++ qs, gp t z ≤ gp t n := fun n h => by
    have := z4 n h; rw [nr_in ht (hpq n h) z2] at this; have := of_decide_eq_false this; omega
  have hzx := zl x (List.mem_append_left _ x3)
  have hzy := zl y (List.mem_append_right _ y3)
  have hz : z = x ∨ z = y := by
    rcases List.mem_append.1 z3 with h | h
    · exact .inl (gp_inj ht z2 x2 (by have := xl z h; omega))
    · exact .inr (gp_inj ht z2 y2 (by have := yl z h; omega))
  refine ⟨x, y, z, x1, y1, z1, ?_, ?_, z4 x (List.mem_append_left _ x3), z4 y (List.mem_append_right _ y3)⟩
  · refine own_is ht ?_ (by simp) ?_ ?_
    · intro n hn
      rcases List.mem_cons.1 hn with rfl | hn
      · exact x2
      · rw [List.mem_singleton.1 hn]; exact y2
    · rcases hz with rfl | rfl <;> simp
    · intro n hn
      rcases List.mem_cons.1 hn with rfl | hn
      · exact hzx
      · rw [List.mem_singleton.1 hn]; exact hzy
  · by_cases h : z = x
    · exact .inl (beq_iff_eq.2 h)
    · exact .inr ⟨beq_eq_false_iff_ne.2 h, beq_iff_eq.2 (hz.resolve_left h)⟩

set_option maxRecDepth 100000 in
set_option maxHeartbeats 4000000 in
theorem owners_yes (t : Int) (va vb : Value) (aas bs : List Int) (w : World) (ha0 : 0 < aas.length) (ha20 : aas.length ≤ 20) (hb0 : 0 < bs.length) (hb20 : bs.length ≤ 20) (hva : Ints w va aas) (hvb : Ints w vb bs) :
    Calls Try.prog 5 #[.int .i64 t, va, vb] w (Ret (.bool true) w) := by
  obtain ⟨t', et, ht⟩ := umod t 4 (by omega) (by omega)
  obtain ⟨ps, hps⟩ : ∃ ps, aas.map md = ps := ⟨_, rfl⟩
  obtain ⟨qs, hqs⟩ : ∃ qs, bs.map md = qs := ⟨_, rfl⟩
  have hpl : ps.length = aas.length := by rw [← hps]; simp
  have hql : qs.length = bs.length := by rw [← hqs]; simp
  have hpk : ∀ k, k < aas.length → ps.getD k 0 = md (aas.getD k 0) := fun k hk => by rw [← hps]; exact map_getD md aas k hk
  have hqk : ∀ k, k < bs.length → qs.getD k 0 = md (bs.getD k 0) := fun k hk => by rw [← hqs]; exact map_getD md bs k hk
  have hpm : ∀ n ∈ ps, 0 ≤ n ∧ n < 8 := by
    intro n hn; rw [← hps] at hn; obtain ⟨x, _, rfl⟩ := List.mem_map.1 hn; exact md_in x
  have hqm : ∀ n ∈ qs, 0 ≤ n ∧ n < 8 := by
    intro n hn; rw [← hqs] at hn; obtain ⟨x, _, rfl⟩ := List.mem_map.1 hn; exact md_in x
  obtain ⟨x, y, z, hx, hy, hz, hxy, hzz, hxz, hyz⟩ := owners_law ht hpm hqm (by omega) (by omega)
  rcases hva with ⟨rfl, _⟩ | ⟨_, hla, ba, offa, capa, rfl, hca⟩
  · simp at ha0
  rcases hvb with ⟨rfl, _⟩ | ⟨_, hlb, bb, offb, capb, rfl, hcb⟩
  · simp at hb0
  have HX := Lib.hid hx
  have HY := Lib.hid hy
  have HZ := Lib.hid hz
  have HXY := Lib.hid hxy
  have HXZ := Lib.hid hxz
  have HYZ := Lib.hid hyz
  have HPL := Lib.hid hpl
  have HQL := Lib.hid hql
  have HPK := Lib.hid hpk
  have HQK := Lib.hid hqk
  have ET := Lib.hid et
  have HCA := Lib.hid hca
  have HCB := Lib.hid hcb
  have HZZ := Lib.hid hzz
  have e1 : decide (20 < (aas.length : Int)) = false := decide_eq_false (by omega)
  have e2 : ((aas.length : Int) == 0) = false := by rw [beq_eq_false_iff_ne]; omega
  have e3 : decide (20 < (bs.length : Int)) = false := decide_eq_false (by omega)
  have e4 : ((bs.length : Int) == 0) = false := by rw [beq_eq_false_iff_ne]; omega
  clear et ht hps hqs hpl hql hpk hqk hpm hqm hx hy hz hxy hxz hyz hca hcb hzz
  go_enter Try.func5, Try.ntmps5
  go_wp2
  rw [ET.out]
  go_loopw [7, 9] (fun s i wr => ∃ k : Nat, k ≤ aas.length ∧ i = .int .i64 k ∧ Own wr w.heap.size s (ps.take k) ∧ Up w wr) (fun _ i _ => aas.length - (intOf i).toNat)
  case atStart => exact ⟨0, Nat.zero_le _, rfl, Own.nil _ _, Up.refl _⟩
  case round =>
    obtain ⟨k, hk, rfl, hown, hu⟩ := hrel
    have HW := Lib.hid hown
    have HU1 := Lib.hid hu
    clear hown hu
    by_cases hlt : k < aas.length
    · have hcell := HU1.out.cell (HCA.out k hlt)
      obtain ⟨q, hq⟩ : ∃ q, aas.getD k 0 = q := ⟨_, rfl⟩
      rw [hq] at hcell
      have htake := take_getD ps k (by rw [HPL.out]; exact hlt)
      rw [HPK.out k hlt, hq] at htake
      have HTK := Lib.hid htake
      have HL := Lib.hid (show (ps.take k).length ≤ 20 by rw [List.length_take, HPL.out]; omega)
      clear hq htake
      go_wp2_with (at_builtin; refine append_ints rfl _ _ rfl w.heap.size _ _ (ps.take k) [md q] rfl rfl (HW.out.alloc _) (ints_new _ [md q] _ _ (by simp) (by simp)) (by simp) (by have := HL.out; simp; omega) (by have := HU1.out.out.size; simp; omega) (HU1.out.trans (Up.alloc _ _)) (Nat.le_refl _) ?_)
      intro v' w' hown' hup'
      rw [← HTK.out] at hown'
      have HW' := Lib.hid hown'
      have HU' := Lib.hid hup'
      clear hown' hup'
      go_wp2
      exact ⟨⟨k + 1, by omega, by go_num, HW'.out, HU'.out⟩, by simp [intOf]; omega⟩
    · have hkk : k = aas.length := by omega
      have hown := HW.out
      rw [show ps.take k = ps from List.take_of_length_le (by rw [HPL.out]; omega)] at hown
      rcases hown.ints with ⟨he, _⟩ | ⟨hp0, hpl2, b1, off1, c1, rfl, hc1⟩
      · exfalso; have := HPL.out; rw [he] at this; simp at this; omega
      have HI := Lib.hid hown.ints
      clear hown hkk hc1
      rename World => w1
      go_wp2
      go_loopw [8, 10] (fun s i wr => ∃ k : Nat, k ≤ bs.length ∧ i = .int .i64 k ∧ Own wr w1.heap.size s (qs.take k) ∧ Up w1 wr) (fun _ i _ => bs.length - (intOf i).toNat)
      case atStart => exact ⟨0, Nat.zero_le _, rfl, Own.nil _ _, Up.refl _⟩
      case round =>
        obtain ⟨k, hk, rfl, hown, hu⟩ := hrel
        have HW2 := Lib.hid hown
        have HU2 := Lib.hid hu
        clear hown hu
        by_cases hlt : k < bs.length
        · have hcell := HU2.out.cell (HU1.out.cell (HCB.out k hlt))
          obtain ⟨q, hq⟩ : ∃ q, bs.getD k 0 = q := ⟨_, rfl⟩
          rw [hq] at hcell
          have htake := take_getD qs k (by rw [HQL.out]; exact hlt)
          rw [HQK.out k hlt, hq] at htake
          have HTK := Lib.hid htake
          have HL := Lib.hid (show (qs.take k).length ≤ 20 by rw [List.length_take, HQL.out]; omega)
          clear hq htake
          go_wp2_with (at_builtin; refine append_ints rfl _ _ rfl w1.heap.size _ _ (qs.take k) [md q] rfl rfl (HW2.out.alloc _) (ints_new _ [md q] _ _ (by simp) (by simp)) (by simp) (by have := HL.out; simp; omega) (by have := HU2.out.out.size; simp; omega) (HU2.out.trans (Up.alloc _ _)) (Nat.le_refl _) ?_)
          intro v' w' hown' hup'
          rw [← HTK.out] at hown'
          have HW' := Lib.hid hown'
          have HU' := Lib.hid hup'
          clear hown' hup'
          go_wp2
          exact ⟨⟨k + 1, by omega, by go_num, HW'.out, HU'.out⟩, by simp [intOf]; omega⟩
        · have hkk : k = bs.length := by omega
          have hown := HW2.out
          rw [show qs.take k = qs from List.take_of_length_le (by rw [HQL.out]; omega)] at hown
          rcases hown.ints with ⟨he, _⟩ | ⟨hq0, hql2, b2, off2, c2, rfl, hc2⟩
          · exfalso; have := HQL.out; rw [he] at this; simp at this; omega
          have HI2 := Lib.hid hown.ints
          have HIP := Lib.hid (HI.out.up HU2.out)
          have HUU := Lib.hid (HU1.out.trans HU2.out)
          clear hown hkk hc2
          go_wp2_with fail
          refine (owner_ _ _ ps _ HIP.out).mono ?_
          rintro e w5 ⟨rfl, u5⟩
          rw [HX.out]
          go_wp2_with fail
          refine (owner_ _ _ qs _ (HI2.out.up u5)).mono ?_
          rintro e w6 ⟨rfl, u6⟩
          rw [HY.out]
          have HIP6 := Lib.hid (HIP.out.up (u5.trans u6))
          have HIQ6 := Lib.hid (HI2.out.up (u5.trans u6))
          have HU6 := Lib.hid (HUU.out.trans (u5.trans u6))
          clear u5 u6
          go_wp2_with (at_builtin; refine append_ints rfl _ _ rfl w6.heap.size _ _ [] ps rfl rfl (own_lit _ _ (Nat.le_refl _)) (HIP6.out.up (Up.alloc _ _)) (by have := HPL.out; omega) (by have := HPL.out; simp; omega) (by simp) (Up.alloc _ _) (Nat.le_refl _) ?_)
          intro v7 w7 hown7 up7
          have HW7 := Lib.hid hown7
          have HU7 := Lib.hid up7
          clear hown7 up7
          go_wp2_with (at_builtin; refine append_ints rfl _ _ rfl w6.heap.size _ _ ps qs rfl rfl HW7.out (HIQ6.out.up HU7.out) (by have := HQL.out; omega) (by have := HPL.out; have := HQL.out; omega) HU7.out.out.size HU7.out (Nat.le_refl _) ?_)
          intro v8 w8 hown8 up8
          have HW8 := Lib.hid hown8
          have HU8 := Lib.hid (HU6.out.trans up8)
          clear hown8 up8
          go_wp2_with fail
          refine (owner_ _ _ (ps ++ qs) _ HW8.out.ints).mono ?_
          rintro e w9 ⟨rfl, u9⟩
          rw [HZ.out]
          go_wp2_with fail
          refine (owner_ _ _ [x, y] _ (ints_new _ [x, y] _ _ (by simp) (by simp))).mono ?_
          rintro e w10 ⟨rfl, u10⟩
          rw [HXY.out]
          have HU10 := Lib.hid ((HU8.out.trans u9).trans ((Up.alloc _ _).trans u10))
          clear u9 u10
          have hzz := HZZ.out
          rcases hzz with hzz | ⟨hzx, hzy⟩
          · have hz2 : z = x := by simpa using hzz
            clear hzz
            subst hz2
            go_wp2_with fail
            refine (nearer_ _ _ _ _).mono ?_
            rintro e w11 ⟨rfl, u11⟩
            rw [HXZ.out]
            go_wp2_with fail
            refine (nearer_ _ _ _ _).mono ?_
            rintro e w12 ⟨rfl, u12⟩
            rw [HYZ.out]
            go_wp2_with fail
            refine (wakes3 _).mono ?_
            rintro e w13 ⟨rfl, u13⟩
            go_wp2
            go_ret
            exact ⟨rfl, ((HU10.out.trans u11).trans u12).trans u13⟩
          · have hz2 : z = y := by simpa using hzy
            clear hzy
            subst hz2
            go_wp2_with fail
            refine (nearer_ _ _ _ _).mono ?_
            rintro e w11 ⟨rfl, u11⟩
            rw [HXZ.out]
            go_wp2_with fail
            refine (nearer_ _ _ _ _).mono ?_
            rintro e w12 ⟨rfl, u12⟩
            rw [HYZ.out]
            go_wp2_with fail
            refine (wakes3 _).mono ?_
            rintro e w13 ⟨rfl, u13⟩
            go_wp2
            go_ret
            exact ⟨rfl, ((HU10.out.trans u11).trans u12).trans u13⟩

theorem Ints.len {w : World} {A : Option Addr} {len cap : Nat} {xs : List Int} (h : Ints w (.slice A len cap) xs) : len = xs.length ∧ len ≤ 9223372036854775807 := by
  rcases h with ⟨rfl, A', c', e⟩ | ⟨h0, hl, b0, off, cap', e, _⟩
  · obtain ⟨rfl, rfl, rfl⟩ := by simpa using e
    exact ⟨rfl, by omega⟩
  · obtain ⟨rfl, rfl, rfl⟩ := by simpa using e
    exact ⟨rfl, hl⟩

theorem owners_out (t : Int) (A B : Option Addr) (la ca lb cb : Nat) (w : World) (ha : la ≤ 9223372036854775807) (hb : lb ≤ 9223372036854775807) (b1 b2 b3 b4 : Bool)
    (e1 : decide (20 < (la : Int)) = b1) (e2 : decide (20 < (lb : Int)) = b2) (e3 : ((la : Int) == 0) = b3) (e4 : ((lb : Int) == 0) = b4) (h : (b1 || b2 || b3 || b4) = true) :
    Calls Try.prog 5 #[.int .i64 t, .slice A la ca, .slice B lb cb] w (Ret (.bool true) w) := by
  cases b1 <;> cases b2 <;> cases b3 <;> cases b4 <;> (try (exfalso; revert h; decide))
  all_goals
    clear h
    go_enter Try.func5, Try.ntmps5
    go_wp2
    go_ret
    exact ⟨rfl, Up.refl _⟩

theorem owners_any (t : Int) (A : Option Addr) (la ca : Nat) (xs : List Int) (B : Option Addr) (lb cb : Nat) (ys : List Int) (w : World) (hx : Ints w (.slice A la ca) xs) (hy : Ints w (.slice B lb cb) ys) :
    Calls Try.prog 5 #[.int .i64 t, .slice A la ca, .slice B lb cb] w (Ret (.bool true) w) := by
  obtain ⟨ex, hx1⟩ := hx.len
  obtain ⟨ey, hy1⟩ := hy.len
  by_cases h : 0 < la ∧ la ≤ 20 ∧ 0 < lb ∧ lb ≤ 20
  · exact owners_yes t _ _ xs ys w (by omega) (by omega) (by omega) (by omega) hx hy
  · refine owners_out t A B la ca lb cb w hx1 hy1 _ _ _ _ rfl rfl rfl rfl ?_
    simp only [Bool.or_eq_true, decide_eq_true_eq, beq_iff_eq]
    omega

end Go.Proofs.Yteeibpeefhaoiaa
