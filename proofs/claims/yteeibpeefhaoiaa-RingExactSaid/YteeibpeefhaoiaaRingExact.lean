/- The law RingExact returns true for every input: the walk, case by case. No condition. -/
import Derived.Test.YteeibpeefhaoiaaRingE
import Derived.Deep.QuietTactic
import Derived.BigQuiet
namespace Go.Proofs.Yteeibpeefhaoiaa
open Go.RowKit
set_option linter.unusedVariables false

theorem Up.drewN (w : World) (n : Nat) : Up w (w.drewN n) := by
  have h := Below.refl w.heap.size w
  exact ⟨⟨h.os, h.tape, h.output, h.size, h.block⟩⟩

theorem append_none {ops : Array Oper} {rest : List Oper} {o : Oper} {a : Act} {Q : Exit → Act → World → Prop} {w : World} (hgd : o.guard = none) (s x : Operand)
    (ho : o.op = .call { callee := .builtin .append, args := #[s, x], argTypes := #[22, 22] }) (ht : o.type = 22) (A : Option Addr) (c : Nat) (hs : a.eval s = .slice none 0 0) (hx : a.eval x = .slice A 0 c)
    (h : wpList Try.prog ops Q rest (a.put o.dst (.slice none 0 0)) w) : wpList Try.prog ops Q (o :: rest) a w := by
  refine wpList_plain hgd fun K hK => ?_
  have hr : Sem.run Try.prog (Builtin.append_ #[22, 22] 22 #[.slice none 0 0, .slice A 0 c]) w = .ok (.slice none 0 0) w := by cases A <;> kernel_rfl
  unfold Oper.wp execOp
  simp only [ho, ht, resolve, invoke, builtin, Sem.run_bind, Sem.run_pure, Result.andThen_ok, List.map_toArray, List.map_cons, List.map_nil, hs, hx, hr]
  exact hK _ _ h

theorem getD_mem {xs : List Int} {k : Nat} (h : k < xs.length) : xs.getD k 0 ∈ xs := by
  rw [List.getD_eq_getElem?_getD, List.getElem?_eq_getElem h]
  exact List.getElem_mem h

theorem ownV_getD {t : Int} {xs : List Int} (ht : inB t 4 = true) (ha : allB xs = true) (h0 : 0 < xs.length) : ownV t xs = .tuple #[.int .i64 (ow t (xs.getD 0 0) xs), .int .i64 0] := by
  cases xs with
  | nil => simp at h0
  | cons x l => unfold ownV; rw [ht, ha]; rfl

theorem allB_getD {xs : List Int} (h : allB xs = false) : ∃ k, k < xs.length ∧ inB (xs.getD k 0) 8 = false ∧ ∀ j, j < k → inB (xs.getD j 0) 8 = true := by
  induction xs with
  | nil => simp [allB] at h
  | cons x l ih =>
    cases hx : inB x 8 with
    | false => exact ⟨0, by simp, by simpa using hx, fun j hj => by omega⟩
    | true =>
      have hl : allB l = false := by simpa [allB, hx] using h
      obtain ⟨k, h1, h2, h3⟩ := ih hl
      refine ⟨k + 1, by simp; omega, by simpa using h2, fun j hj => ?_⟩
      cases j with
      | zero => simpa using hx
      | succ j => simpa using h3 j (by omega)

set_option maxRecDepth 100000 in
set_option maxHeartbeats 4000000 in
theorem exactFFe (t a b : Int) (A : Option Addr) (cap : Nat) (w : World) (ht : inB t 4 = false) (ha : inB a 8 = false) :
    Calls Try.prog 3 #[.int .i64 t, .int .i64 a, .int .i64 b, .slice A 0 cap] w (Ret (.bool true) w) := by
  have HT := Lib.hid ht
  have HA := Lib.hid ha
  clear ht ha
  go_enter Try.func3, Try.ntmps3
  go_wp2_with (at_builtin; refine append_none rfl _ _ rfl rfl A cap rfl rfl ?_)
  go_wp2_with fail
  refine (node_ _ _).mono ?_
  rintro e w1 ⟨rfl, up1⟩
  rw [show ok1 (inB a 8) (nk a) = .tuple #[.int .i64 0, .int .i64 1] by rw [HA.out]; rfl]
  go_wp2_with fail
  refine (topic_ _ _).mono ?_
  rintro e w2 ⟨rfl, up2⟩
  rw [show ok1 (inB t 4) (tk t) = .tuple #[.int .i64 0, .int .i64 1] by rw [HT.out]; rfl]
  go_wp2_with fail
  refine (gap_ _ _ _).mono ?_
  rintro e w3 ⟨rfl, up3⟩
  rw [show ok1 (inB t 4 && inB a 8) (gp t a) = .tuple #[.int .i64 0, .int .i64 1] by rw [HT.out, HA.out]; rfl]
  go_wp2_with fail
  refine (owner_ _ _ [] _ (Ints.nil _ _ _)).mono ?_
  rintro e w4 ⟨rfl, up4⟩
  rw [show ownV t [] = .tuple #[.int .i64 0, .int .i64 1] by unfold ownV; rw [HT.out]; rfl]
  go_wp2_with fail
  refine (nearer_ _ _ _ _).mono ?_
  rintro e w5 ⟨rfl, up5⟩
  go_wp2_with fail
  refine (rnearer _ _ _ _).mono ?_
  rintro e w6 ⟨rfl, up6⟩
  obtain ⟨nb, hnb⟩ : ∃ nb, nr t a b = nb := ⟨_, rfl⟩
  rw [hnb]
  clear hnb
  have HU6 := Lib.hid (((((up1.trans up2).trans up3).trans up4).trans up5).trans up6)
  clear up1 up2 up3 up4 up5 up6
  go_wp2
  go_loopw [18] (fun i wr => i = .int .i64 0 ∧ wr = w6) (fun _ _ => 0)
  case atStart => exact ⟨rfl, rfl⟩
  case round =>
  obtain ⟨rfl, rfl⟩ := hrel
  rename World => w7
  have HU7 := HU6
  go_wp2_with fail
  refine (rnode _ _).mono ?_
  rintro e w8 ⟨rfl, up8⟩
  rw [HA.out]
  go_wp2_with fail
  refine (rtopic _ _).mono ?_
  rintro e w9 ⟨rfl, up9⟩
  rw [HT.out]
  go_wp2_with fail
  refine (wakes3 _).mono ?_
  rintro e w10 ⟨rfl, up10⟩
  go_wp2
  go_ret
  exact ⟨rfl, (((HU7.out.trans up8).trans up9).trans up10)⟩

set_option maxRecDepth 100000 in
set_option maxHeartbeats 4000000 in
theorem exactFFa (t a b : Int) (bl off len cap : Nat) (xs : List Int) (w : World) (ht : inB t 4 = false) (ha : inB a 8 = false) (hall : allB xs = true) (hlen : len = xs.length) (h0 : 0 < len) (h50 : len ≤ 50)
    (hc : ∀ j, j < xs.length → w.cell? ⟨bl, off + j, none⟩ = some (.int .i64 (xs.getD j 0))) :
    Calls Try.prog 3 #[.int .i64 t, .int .i64 a, .int .i64 b, .slice (some ⟨bl, off, none⟩) len cap] w (Ret (.bool true) w) := by
  have HI := Lib.hid (show Ints w (.slice (some ⟨bl, off, none⟩) len cap) xs from .inr ⟨by omega, by omega, bl, off, cap, by rw [hlen], hc⟩)
  have e1 : decide (50 < (len : Int)) = false := decide_eq_false (by omega)
  have e2 : ((len : Int) == 0) = false := by rw [beq_eq_false_iff_ne]; omega
  have HL := Lib.hid hlen
  have HALL := Lib.hid hall
  have HC := Lib.hid hc
  have hk0 : xs.getD 0 0 = xs.getD 0 0 := rfl
  clear hk0 hlen hall hc
  have HT := Lib.hid ht
  have HA := Lib.hid ha
  clear ht ha
  go_enter Try.func3, Try.ntmps3
  go_wp2_with (at_builtin; refine append_ints rfl _ _ rfl w.heap.size _ _ [] xs rfl rfl (Own.nil _ _) HI.out (by have := HL.out; omega) (by have := HL.out; simp; omega) (Nat.le_refl _) (Up.refl _) (Nat.le_refl _) ?_)
  intro v w0 hown hup
  rcases hown.ints with ⟨he, _⟩ | ⟨_, _, b1, off1, c1, rfl, hc1⟩
  · exfalso; have := HL.out; (try simp at he); rw [he] at this; simp at this; omega
  have HIN := Lib.hid hown.ints
  have HC1 := Lib.hid hc1
  have HU0 := Lib.hid hup
  clear hown hup hc1
  go_wp2_with fail
  refine (node_ _ _).mono ?_
  rintro e w1 ⟨rfl, up1⟩
  rw [show ok1 (inB a 8) (nk a) = .tuple #[.int .i64 0, .int .i64 1] by rw [HA.out]; rfl]
  go_wp2_with fail
  refine (topic_ _ _).mono ?_
  rintro e w2 ⟨rfl, up2⟩
  rw [show ok1 (inB t 4) (tk t) = .tuple #[.int .i64 0, .int .i64 1] by rw [HT.out]; rfl]
  go_wp2_with fail
  refine (gap_ _ _ _).mono ?_
  rintro e w3 ⟨rfl, up3⟩
  rw [show ok1 (inB t 4 && inB a 8) (gp t a) = .tuple #[.int .i64 0, .int .i64 1] by rw [HT.out, HA.out]; rfl]
  go_wp2_with fail
  refine (owner_ _ _ xs _ (HIN.out.up ((up1.trans up2).trans up3))).mono ?_
  rintro e w4 ⟨rfl, up4⟩
  rw [show ownV t xs = .tuple #[.int .i64 0, .int .i64 1] by unfold ownV; rw [HT.out]; rfl]
  go_wp2_with fail
  refine (nearer_ _ _ _ _).mono ?_
  rintro e w5 ⟨rfl, up5⟩
  go_wp2_with fail
  refine (rnearer _ _ _ _).mono ?_
  rintro e w6 ⟨rfl, up6⟩
  obtain ⟨nb, hnb⟩ : ∃ nb, nr t a b = nb := ⟨_, rfl⟩
  rw [hnb]
  clear hnb
  have HU6 := Lib.hid (HU0.out.trans (((((up1.trans up2).trans up3).trans up4).trans up5).trans up6))
  have HC6 := Lib.hid (show ∀ j, j < xs.length → w6.cell? ⟨b1, off1 + j, none⟩ = some (.int .i64 (xs.getD j 0)) from fun j hj => (((((up1.trans up2).trans up3).trans up4).trans up5).trans up6).cell (HC1.out j hj))
  clear up1 up2 up3 up4 up5 up6
  go_wp2
  go_loopw [18] (fun i wr => ∃ k : Nat, k ≤ len ∧ i = .int .i64 k ∧ Up w6 wr) (fun i _ => len - (intOf i).toNat)
  case atStart => exact ⟨0, Nat.zero_le _, rfl, Up.refl _⟩
  case round =>
  obtain ⟨k, hk, rfl, hu⟩ := hrel
  have HU := Lib.hid hu
  clear hu
  by_cases hlt : k < len
  · have hcell := HU.out.cell (HU6.out.cell (HC.out k (by have := HL.out; omega)))
    have hcell1 := HU.out.cell (HC6.out k (by have := HL.out; omega))
    have hlx : k < xs.length := by have := HL.out; omega
    obtain ⟨q, hq⟩ : ∃ q, xs.getD k 0 = q := ⟨_, rfl⟩
    rw [hq] at hcell hcell1
    clear hq
    have hi1 : (k : Int) < (len : Int) := by omega
    have hi2 : (k : Int) < (xs.length : Int) := by omega
    have hi0 : (0 : Int) ≤ (k : Int) := by omega
    go_wp2_with fail
    go_quiet (fail)
    go_wp2
    exact ⟨⟨k + 1, by omega, by go_num, HU.out.trans (Up.drewN _ _)⟩, by simp [intOf]; omega⟩
  rename World => w7
  have HU7 := Lib.hid (HU6.out.trans HU.out)

  go_wp2_with fail
  refine (rnode _ _).mono ?_
  rintro e w8 ⟨rfl, up8⟩
  rw [HA.out]
  go_wp2_with fail
  refine (rtopic _ _).mono ?_
  rintro e w9 ⟨rfl, up9⟩
  rw [HT.out]
  go_wp2_with fail
  refine (wakes3 _).mono ?_
  rintro e w10 ⟨rfl, up10⟩
  go_wp2
  go_ret
  exact ⟨rfl, (((HU7.out.trans up8).trans up9).trans up10)⟩

set_option maxRecDepth 100000 in
set_option maxHeartbeats 4000000 in
theorem exactFFn (t a b : Int) (bl off len cap : Nat) (xs : List Int) (w : World) (ht : inB t 4 = false) (ha : inB a 8 = false) (hall : allB xs = false) (hlen : len = xs.length) (h0 : 0 < len) (h50 : len ≤ 50)
    (hc : ∀ j, j < xs.length → w.cell? ⟨bl, off + j, none⟩ = some (.int .i64 (xs.getD j 0))) :
    Calls Try.prog 3 #[.int .i64 t, .int .i64 a, .int .i64 b, .slice (some ⟨bl, off, none⟩) len cap] w (Ret (.bool true) w) := by
  have HI := Lib.hid (show Ints w (.slice (some ⟨bl, off, none⟩) len cap) xs from .inr ⟨by omega, by omega, bl, off, cap, by rw [hlen], hc⟩)
  have e1 : decide (50 < (len : Int)) = false := decide_eq_false (by omega)
  have e2 : ((len : Int) == 0) = false := by rw [beq_eq_false_iff_ne]; omega
  have HL := Lib.hid hlen
  have HALL := Lib.hid hall
  have HC := Lib.hid hc
  have hk0 : xs.getD 0 0 = xs.getD 0 0 := rfl
  clear hk0 hlen hall hc
  have HT := Lib.hid ht
  have HA := Lib.hid ha
  clear ht ha
  go_enter Try.func3, Try.ntmps3
  go_wp2_with (at_builtin; refine append_ints rfl _ _ rfl w.heap.size _ _ [] xs rfl rfl (Own.nil _ _) HI.out (by have := HL.out; omega) (by have := HL.out; simp; omega) (Nat.le_refl _) (Up.refl _) (Nat.le_refl _) ?_)
  intro v w0 hown hup
  rcases hown.ints with ⟨he, _⟩ | ⟨_, _, b1, off1, c1, rfl, hc1⟩
  · exfalso; have := HL.out; (try simp at he); rw [he] at this; simp at this; omega
  have HIN := Lib.hid hown.ints
  have HC1 := Lib.hid hc1
  have HU0 := Lib.hid hup
  clear hown hup hc1
  go_wp2_with fail
  refine (node_ _ _).mono ?_
  rintro e w1 ⟨rfl, up1⟩
  rw [show ok1 (inB a 8) (nk a) = .tuple #[.int .i64 0, .int .i64 1] by rw [HA.out]; rfl]
  go_wp2_with fail
  refine (topic_ _ _).mono ?_
  rintro e w2 ⟨rfl, up2⟩
  rw [show ok1 (inB t 4) (tk t) = .tuple #[.int .i64 0, .int .i64 1] by rw [HT.out]; rfl]
  go_wp2_with fail
  refine (gap_ _ _ _).mono ?_
  rintro e w3 ⟨rfl, up3⟩
  rw [show ok1 (inB t 4 && inB a 8) (gp t a) = .tuple #[.int .i64 0, .int .i64 1] by rw [HT.out, HA.out]; rfl]
  go_wp2_with fail
  refine (owner_ _ _ xs _ (HIN.out.up ((up1.trans up2).trans up3))).mono ?_
  rintro e w4 ⟨rfl, up4⟩
  rw [show ownV t xs = .tuple #[.int .i64 0, .int .i64 1] by unfold ownV; rw [HT.out]; rfl]
  go_wp2_with fail
  refine (nearer_ _ _ _ _).mono ?_
  rintro e w5 ⟨rfl, up5⟩
  go_wp2_with fail
  refine (rnearer _ _ _ _).mono ?_
  rintro e w6 ⟨rfl, up6⟩
  obtain ⟨nb, hnb⟩ : ∃ nb, nr t a b = nb := ⟨_, rfl⟩
  rw [hnb]
  clear hnb
  have HU6 := Lib.hid (HU0.out.trans (((((up1.trans up2).trans up3).trans up4).trans up5).trans up6))
  have HC6 := Lib.hid (show ∀ j, j < xs.length → w6.cell? ⟨b1, off1 + j, none⟩ = some (.int .i64 (xs.getD j 0)) from fun j hj => (((((up1.trans up2).trans up3).trans up4).trans up5).trans up6).cell (HC1.out j hj))
  clear up1 up2 up3 up4 up5 up6
  go_wp2
  go_loopw [18] (fun i wr => ∃ k : Nat, k ≤ len ∧ i = .int .i64 k ∧ Up w6 wr) (fun i _ => len - (intOf i).toNat)
  case atStart => exact ⟨0, Nat.zero_le _, rfl, Up.refl _⟩
  case round =>
  obtain ⟨k, hk, rfl, hu⟩ := hrel
  have HU := Lib.hid hu
  clear hu
  by_cases hlt : k < len
  · have hcell := HU.out.cell (HU6.out.cell (HC.out k (by have := HL.out; omega)))
    have hcell1 := HU.out.cell (HC6.out k (by have := HL.out; omega))
    have hlx : k < xs.length := by have := HL.out; omega
    obtain ⟨q, hq⟩ : ∃ q, xs.getD k 0 = q := ⟨_, rfl⟩
    rw [hq] at hcell hcell1
    clear hq
    have hi1 : (k : Int) < (len : Int) := by omega
    have hi2 : (k : Int) < (xs.length : Int) := by omega
    have hi0 : (0 : Int) ≤ (k : Int) := by omega
    go_wp2_with fail
    go_quiet (fail)
    go_wp2
    exact ⟨⟨k + 1, by omega, by go_num, HU.out.trans (Up.drewN _ _)⟩, by simp [intOf]; omega⟩
  rename World => w7
  have HU7 := Lib.hid (HU6.out.trans HU.out)

  go_wp2_with fail
  refine (rnode _ _).mono ?_
  rintro e w8 ⟨rfl, up8⟩
  rw [HA.out]
  go_wp2_with fail
  refine (rtopic _ _).mono ?_
  rintro e w9 ⟨rfl, up9⟩
  rw [HT.out]
  go_wp2_with fail
  refine (wakes3 _).mono ?_
  rintro e w10 ⟨rfl, up10⟩
  go_wp2
  go_ret
  exact ⟨rfl, (((HU7.out.trans up8).trans up9).trans up10)⟩

set_option maxRecDepth 100000 in
set_option maxHeartbeats 4000000 in
theorem exactFTe (t a b : Int) (A : Option Addr) (cap : Nat) (w : World) (ht : inB t 4 = false) (ha : inB a 8 = true) :
    Calls Try.prog 3 #[.int .i64 t, .int .i64 a, .int .i64 b, .slice A 0 cap] w (Ret (.bool true) w) := by
  have HT := Lib.hid ht
  have HA := Lib.hid ha
  clear ht ha
  go_enter Try.func3, Try.ntmps3
  go_wp2_with (at_builtin; refine append_none rfl _ _ rfl rfl A cap rfl rfl ?_)
  go_wp2_with fail
  refine (node_ _ _).mono ?_
  rintro e w1 ⟨rfl, up1⟩
  rw [show ok1 (inB a 8) (nk a) = .tuple #[.int .i64 (nk a), .int .i64 0] by rw [HA.out]; rfl]
  go_wp2_with fail
  refine (topic_ _ _).mono ?_
  rintro e w2 ⟨rfl, up2⟩
  rw [show ok1 (inB t 4) (tk t) = .tuple #[.int .i64 0, .int .i64 1] by rw [HT.out]; rfl]
  go_wp2_with fail
  refine (gap_ _ _ _).mono ?_
  rintro e w3 ⟨rfl, up3⟩
  rw [show ok1 (inB t 4 && inB a 8) (gp t a) = .tuple #[.int .i64 0, .int .i64 1] by rw [HT.out, HA.out]; rfl]
  go_wp2_with fail
  refine (owner_ _ _ [] _ (Ints.nil _ _ _)).mono ?_
  rintro e w4 ⟨rfl, up4⟩
  rw [show ownV t [] = .tuple #[.int .i64 0, .int .i64 1] by unfold ownV; rw [HT.out]; rfl]
  go_wp2_with fail
  refine (nearer_ _ _ _ _).mono ?_
  rintro e w5 ⟨rfl, up5⟩
  go_wp2_with fail
  refine (rnearer _ _ _ _).mono ?_
  rintro e w6 ⟨rfl, up6⟩
  obtain ⟨nb, hnb⟩ : ∃ nb, nr t a b = nb := ⟨_, rfl⟩
  rw [hnb]
  clear hnb
  have HU6 := Lib.hid (((((up1.trans up2).trans up3).trans up4).trans up5).trans up6)
  clear up1 up2 up3 up4 up5 up6
  go_wp2
  go_loopw [18] (fun i wr => i = .int .i64 0 ∧ wr = w6) (fun _ _ => 0)
  case atStart => exact ⟨rfl, rfl⟩
  case round =>
  obtain ⟨rfl, rfl⟩ := hrel
  rename World => w7
  have HU7 := HU6
  go_wp2_with fail
  refine (rnode _ _).mono ?_
  rintro e w8 ⟨rfl, up8⟩
  rw [HA.out]
  go_wp2_with fail
  refine (rnk_ _ _ (inB_true.1 HA.out)).mono ?_
  rintro e w9 ⟨rfl, up9⟩
  go_wp2_with fail
  refine (rtopic _ _).mono ?_
  rintro e w10 ⟨rfl, up10⟩
  rw [HT.out]
  go_wp2_with fail
  refine (wakes3 _).mono ?_
  rintro e w11 ⟨rfl, up11⟩
  go_wp2
  go_ret
  exact ⟨rfl, ((((HU7.out.trans up8).trans up9).trans up10).trans up11)⟩

set_option maxRecDepth 100000 in
set_option maxHeartbeats 4000000 in
theorem exactFTa (t a b : Int) (bl off len cap : Nat) (xs : List Int) (w : World) (ht : inB t 4 = false) (ha : inB a 8 = true) (hall : allB xs = true) (hlen : len = xs.length) (h0 : 0 < len) (h50 : len ≤ 50)
    (hc : ∀ j, j < xs.length → w.cell? ⟨bl, off + j, none⟩ = some (.int .i64 (xs.getD j 0))) :
    Calls Try.prog 3 #[.int .i64 t, .int .i64 a, .int .i64 b, .slice (some ⟨bl, off, none⟩) len cap] w (Ret (.bool true) w) := by
  have HI := Lib.hid (show Ints w (.slice (some ⟨bl, off, none⟩) len cap) xs from .inr ⟨by omega, by omega, bl, off, cap, by rw [hlen], hc⟩)
  have e1 : decide (50 < (len : Int)) = false := decide_eq_false (by omega)
  have e2 : ((len : Int) == 0) = false := by rw [beq_eq_false_iff_ne]; omega
  have HL := Lib.hid hlen
  have HALL := Lib.hid hall
  have HC := Lib.hid hc
  have hk0 : xs.getD 0 0 = xs.getD 0 0 := rfl
  clear hk0 hlen hall hc
  have HT := Lib.hid ht
  have HA := Lib.hid ha
  clear ht ha
  go_enter Try.func3, Try.ntmps3
  go_wp2_with (at_builtin; refine append_ints rfl _ _ rfl w.heap.size _ _ [] xs rfl rfl (Own.nil _ _) HI.out (by have := HL.out; omega) (by have := HL.out; simp; omega) (Nat.le_refl _) (Up.refl _) (Nat.le_refl _) ?_)
  intro v w0 hown hup
  rcases hown.ints with ⟨he, _⟩ | ⟨_, _, b1, off1, c1, rfl, hc1⟩
  · exfalso; have := HL.out; (try simp at he); rw [he] at this; simp at this; omega
  have HIN := Lib.hid hown.ints
  have HC1 := Lib.hid hc1
  have HU0 := Lib.hid hup
  clear hown hup hc1
  go_wp2_with fail
  refine (node_ _ _).mono ?_
  rintro e w1 ⟨rfl, up1⟩
  rw [show ok1 (inB a 8) (nk a) = .tuple #[.int .i64 (nk a), .int .i64 0] by rw [HA.out]; rfl]
  go_wp2_with fail
  refine (topic_ _ _).mono ?_
  rintro e w2 ⟨rfl, up2⟩
  rw [show ok1 (inB t 4) (tk t) = .tuple #[.int .i64 0, .int .i64 1] by rw [HT.out]; rfl]
  go_wp2_with fail
  refine (gap_ _ _ _).mono ?_
  rintro e w3 ⟨rfl, up3⟩
  rw [show ok1 (inB t 4 && inB a 8) (gp t a) = .tuple #[.int .i64 0, .int .i64 1] by rw [HT.out, HA.out]; rfl]
  go_wp2_with fail
  refine (owner_ _ _ xs _ (HIN.out.up ((up1.trans up2).trans up3))).mono ?_
  rintro e w4 ⟨rfl, up4⟩
  rw [show ownV t xs = .tuple #[.int .i64 0, .int .i64 1] by unfold ownV; rw [HT.out]; rfl]
  go_wp2_with fail
  refine (nearer_ _ _ _ _).mono ?_
  rintro e w5 ⟨rfl, up5⟩
  go_wp2_with fail
  refine (rnearer _ _ _ _).mono ?_
  rintro e w6 ⟨rfl, up6⟩
  obtain ⟨nb, hnb⟩ : ∃ nb, nr t a b = nb := ⟨_, rfl⟩
  rw [hnb]
  clear hnb
  have HU6 := Lib.hid (HU0.out.trans (((((up1.trans up2).trans up3).trans up4).trans up5).trans up6))
  have HC6 := Lib.hid (show ∀ j, j < xs.length → w6.cell? ⟨b1, off1 + j, none⟩ = some (.int .i64 (xs.getD j 0)) from fun j hj => (((((up1.trans up2).trans up3).trans up4).trans up5).trans up6).cell (HC1.out j hj))
  clear up1 up2 up3 up4 up5 up6
  go_wp2
  go_loopw [18] (fun i wr => ∃ k : Nat, k ≤ len ∧ i = .int .i64 k ∧ Up w6 wr) (fun i _ => len - (intOf i).toNat)
  case atStart => exact ⟨0, Nat.zero_le _, rfl, Up.refl _⟩
  case round =>
  obtain ⟨k, hk, rfl, hu⟩ := hrel
  have HU := Lib.hid hu
  clear hu
  by_cases hlt : k < len
  · have hcell := HU.out.cell (HU6.out.cell (HC.out k (by have := HL.out; omega)))
    have hcell1 := HU.out.cell (HC6.out k (by have := HL.out; omega))
    have hlx : k < xs.length := by have := HL.out; omega
    obtain ⟨q, hq⟩ : ∃ q, xs.getD k 0 = q := ⟨_, rfl⟩
    rw [hq] at hcell hcell1
    clear hq
    have hi1 : (k : Int) < (len : Int) := by omega
    have hi2 : (k : Int) < (xs.length : Int) := by omega
    have hi0 : (0 : Int) ≤ (k : Int) := by omega
    go_wp2_with fail
    go_quiet (fail)
    go_wp2
    exact ⟨⟨k + 1, by omega, by go_num, HU.out.trans (Up.drewN _ _)⟩, by simp [intOf]; omega⟩
  rename World => w7
  have HU7 := Lib.hid (HU6.out.trans HU.out)

  go_wp2_with fail
  refine (rnode _ _).mono ?_
  rintro e w8 ⟨rfl, up8⟩
  rw [HA.out]
  go_wp2_with fail
  refine (rnk_ _ _ (inB_true.1 HA.out)).mono ?_
  rintro e w9 ⟨rfl, up9⟩
  go_wp2_with fail
  refine (rtopic _ _).mono ?_
  rintro e w10 ⟨rfl, up10⟩
  rw [HT.out]
  go_wp2_with fail
  refine (wakes3 _).mono ?_
  rintro e w11 ⟨rfl, up11⟩
  go_wp2
  go_ret
  exact ⟨rfl, ((((HU7.out.trans up8).trans up9).trans up10).trans up11)⟩

set_option maxRecDepth 100000 in
set_option maxHeartbeats 4000000 in
theorem exactFTn (t a b : Int) (bl off len cap : Nat) (xs : List Int) (w : World) (ht : inB t 4 = false) (ha : inB a 8 = true) (hall : allB xs = false) (hlen : len = xs.length) (h0 : 0 < len) (h50 : len ≤ 50)
    (hc : ∀ j, j < xs.length → w.cell? ⟨bl, off + j, none⟩ = some (.int .i64 (xs.getD j 0))) :
    Calls Try.prog 3 #[.int .i64 t, .int .i64 a, .int .i64 b, .slice (some ⟨bl, off, none⟩) len cap] w (Ret (.bool true) w) := by
  have HI := Lib.hid (show Ints w (.slice (some ⟨bl, off, none⟩) len cap) xs from .inr ⟨by omega, by omega, bl, off, cap, by rw [hlen], hc⟩)
  have e1 : decide (50 < (len : Int)) = false := decide_eq_false (by omega)
  have e2 : ((len : Int) == 0) = false := by rw [beq_eq_false_iff_ne]; omega
  have HL := Lib.hid hlen
  have HALL := Lib.hid hall
  have HC := Lib.hid hc
  have hk0 : xs.getD 0 0 = xs.getD 0 0 := rfl
  clear hk0 hlen hall hc
  have HT := Lib.hid ht
  have HA := Lib.hid ha
  clear ht ha
  go_enter Try.func3, Try.ntmps3
  go_wp2_with (at_builtin; refine append_ints rfl _ _ rfl w.heap.size _ _ [] xs rfl rfl (Own.nil _ _) HI.out (by have := HL.out; omega) (by have := HL.out; simp; omega) (Nat.le_refl _) (Up.refl _) (Nat.le_refl _) ?_)
  intro v w0 hown hup
  rcases hown.ints with ⟨he, _⟩ | ⟨_, _, b1, off1, c1, rfl, hc1⟩
  · exfalso; have := HL.out; (try simp at he); rw [he] at this; simp at this; omega
  have HIN := Lib.hid hown.ints
  have HC1 := Lib.hid hc1
  have HU0 := Lib.hid hup
  clear hown hup hc1
  go_wp2_with fail
  refine (node_ _ _).mono ?_
  rintro e w1 ⟨rfl, up1⟩
  rw [show ok1 (inB a 8) (nk a) = .tuple #[.int .i64 (nk a), .int .i64 0] by rw [HA.out]; rfl]
  go_wp2_with fail
  refine (topic_ _ _).mono ?_
  rintro e w2 ⟨rfl, up2⟩
  rw [show ok1 (inB t 4) (tk t) = .tuple #[.int .i64 0, .int .i64 1] by rw [HT.out]; rfl]
  go_wp2_with fail
  refine (gap_ _ _ _).mono ?_
  rintro e w3 ⟨rfl, up3⟩
  rw [show ok1 (inB t 4 && inB a 8) (gp t a) = .tuple #[.int .i64 0, .int .i64 1] by rw [HT.out, HA.out]; rfl]
  go_wp2_with fail
  refine (owner_ _ _ xs _ (HIN.out.up ((up1.trans up2).trans up3))).mono ?_
  rintro e w4 ⟨rfl, up4⟩
  rw [show ownV t xs = .tuple #[.int .i64 0, .int .i64 1] by unfold ownV; rw [HT.out]; rfl]
  go_wp2_with fail
  refine (nearer_ _ _ _ _).mono ?_
  rintro e w5 ⟨rfl, up5⟩
  go_wp2_with fail
  refine (rnearer _ _ _ _).mono ?_
  rintro e w6 ⟨rfl, up6⟩
  obtain ⟨nb, hnb⟩ : ∃ nb, nr t a b = nb := ⟨_, rfl⟩
  rw [hnb]
  clear hnb
  have HU6 := Lib.hid (HU0.out.trans (((((up1.trans up2).trans up3).trans up4).trans up5).trans up6))
  have HC6 := Lib.hid (show ∀ j, j < xs.length → w6.cell? ⟨b1, off1 + j, none⟩ = some (.int .i64 (xs.getD j 0)) from fun j hj => (((((up1.trans up2).trans up3).trans up4).trans up5).trans up6).cell (HC1.out j hj))
  clear up1 up2 up3 up4 up5 up6
  go_wp2
  go_loopw [18] (fun i wr => ∃ k : Nat, k ≤ len ∧ i = .int .i64 k ∧ Up w6 wr) (fun i _ => len - (intOf i).toNat)
  case atStart => exact ⟨0, Nat.zero_le _, rfl, Up.refl _⟩
  case round =>
  obtain ⟨k, hk, rfl, hu⟩ := hrel
  have HU := Lib.hid hu
  clear hu
  by_cases hlt : k < len
  · have hcell := HU.out.cell (HU6.out.cell (HC.out k (by have := HL.out; omega)))
    have hcell1 := HU.out.cell (HC6.out k (by have := HL.out; omega))
    have hlx : k < xs.length := by have := HL.out; omega
    obtain ⟨q, hq⟩ : ∃ q, xs.getD k 0 = q := ⟨_, rfl⟩
    rw [hq] at hcell hcell1
    clear hq
    have hi1 : (k : Int) < (len : Int) := by omega
    have hi2 : (k : Int) < (xs.length : Int) := by omega
    have hi0 : (0 : Int) ≤ (k : Int) := by omega
    go_wp2_with fail
    go_quiet (fail)
    go_wp2
    exact ⟨⟨k + 1, by omega, by go_num, HU.out.trans (Up.drewN _ _)⟩, by simp [intOf]; omega⟩
  rename World => w7
  have HU7 := Lib.hid (HU6.out.trans HU.out)

  go_wp2_with fail
  refine (rnode _ _).mono ?_
  rintro e w8 ⟨rfl, up8⟩
  rw [HA.out]
  go_wp2_with fail
  refine (rnk_ _ _ (inB_true.1 HA.out)).mono ?_
  rintro e w9 ⟨rfl, up9⟩
  go_wp2_with fail
  refine (rtopic _ _).mono ?_
  rintro e w10 ⟨rfl, up10⟩
  rw [HT.out]
  go_wp2_with fail
  refine (wakes3 _).mono ?_
  rintro e w11 ⟨rfl, up11⟩
  go_wp2
  go_ret
  exact ⟨rfl, ((((HU7.out.trans up8).trans up9).trans up10).trans up11)⟩

set_option maxRecDepth 100000 in
set_option maxHeartbeats 4000000 in
theorem exactTFe (t a b : Int) (A : Option Addr) (cap : Nat) (w : World) (ht : inB t 4 = true) (ha : inB a 8 = false) :
    Calls Try.prog 3 #[.int .i64 t, .int .i64 a, .int .i64 b, .slice A 0 cap] w (Ret (.bool true) w) := by
  have HT := Lib.hid ht
  have HA := Lib.hid ha
  clear ht ha
  go_enter Try.func3, Try.ntmps3
  go_wp2_with (at_builtin; refine append_none rfl _ _ rfl rfl A cap rfl rfl ?_)
  go_wp2_with fail
  refine (node_ _ _).mono ?_
  rintro e w1 ⟨rfl, up1⟩
  rw [show ok1 (inB a 8) (nk a) = .tuple #[.int .i64 0, .int .i64 1] by rw [HA.out]; rfl]
  go_wp2_with fail
  refine (topic_ _ _).mono ?_
  rintro e w2 ⟨rfl, up2⟩
  rw [show ok1 (inB t 4) (tk t) = .tuple #[.int .i64 (tk t), .int .i64 0] by rw [HT.out]; rfl]
  go_wp2_with fail
  refine (gap_ _ _ _).mono ?_
  rintro e w3 ⟨rfl, up3⟩
  rw [show ok1 (inB t 4 && inB a 8) (gp t a) = .tuple #[.int .i64 0, .int .i64 1] by rw [HT.out, HA.out]; rfl]
  go_wp2_with fail
  refine (owner_ _ _ [] _ (Ints.nil _ _ _)).mono ?_
  rintro e w4 ⟨rfl, up4⟩
  rw [show ownV t [] = .tuple #[.int .i64 0, .int .i64 7] by unfold ownV; rw [HT.out]; rfl]
  go_wp2_with fail
  refine (nearer_ _ _ _ _).mono ?_
  rintro e w5 ⟨rfl, up5⟩
  go_wp2_with fail
  refine (rnearer _ _ _ _).mono ?_
  rintro e w6 ⟨rfl, up6⟩
  obtain ⟨nb, hnb⟩ : ∃ nb, nr t a b = nb := ⟨_, rfl⟩
  rw [hnb]
  clear hnb
  have HU6 := Lib.hid (((((up1.trans up2).trans up3).trans up4).trans up5).trans up6)
  clear up1 up2 up3 up4 up5 up6
  go_wp2
  go_loopw [18] (fun i wr => i = .int .i64 0 ∧ wr = w6) (fun _ _ => 0)
  case atStart => exact ⟨rfl, rfl⟩
  case round =>
  obtain ⟨rfl, rfl⟩ := hrel
  rename World => w7
  have HU7 := HU6
  go_wp2_with fail
  refine (rnode _ _).mono ?_
  rintro e w8 ⟨rfl, up8⟩
  rw [HA.out]
  go_wp2_with fail
  refine (rtopic _ _).mono ?_
  rintro e w9 ⟨rfl, up9⟩
  rw [HT.out]
  go_wp2_with fail
  refine (rtk_ _ _ (inB_true.1 HT.out)).mono ?_
  rintro e w10 ⟨rfl, up10⟩
  go_wp2_with fail
  refine (rnode _ _).mono ?_
  rintro e w11 ⟨rfl, up11⟩
  rw [HA.out]
  go_wp2
  go_loopw [19] (fun i wr => i = .int .i64 0 ∧ wr = w11) (fun _ _ => 0)
  case atStart => exact ⟨rfl, rfl⟩
  case round =>
  obtain ⟨rfl, rfl⟩ := hrel
  go_wp2_with fail
  refine (wakes3 _).mono ?_
  rintro e w12 ⟨rfl, up12⟩
  go_wp2
  go_ret
  exact ⟨rfl, (((((HU7.out.trans up8).trans up9).trans up10).trans up11).trans up12)⟩

set_option maxRecDepth 100000 in
set_option maxHeartbeats 4000000 in
theorem exactTFa (t a b : Int) (bl off len cap : Nat) (xs : List Int) (w : World) (ht : inB t 4 = true) (ha : inB a 8 = false) (hall : allB xs = true) (hlen : len = xs.length) (h0 : 0 < len) (h50 : len ≤ 50)
    (hc : ∀ j, j < xs.length → w.cell? ⟨bl, off + j, none⟩ = some (.int .i64 (xs.getD j 0))) :
    Calls Try.prog 3 #[.int .i64 t, .int .i64 a, .int .i64 b, .slice (some ⟨bl, off, none⟩) len cap] w (Ret (.bool true) w) := by
  have HI := Lib.hid (show Ints w (.slice (some ⟨bl, off, none⟩) len cap) xs from .inr ⟨by omega, by omega, bl, off, cap, by rw [hlen], hc⟩)
  have e1 : decide (50 < (len : Int)) = false := decide_eq_false (by omega)
  have e2 : ((len : Int) == 0) = false := by rw [beq_eq_false_iff_ne]; omega
  have HL := Lib.hid hlen
  have HALL := Lib.hid hall
  have HC := Lib.hid hc
  have hk0 : xs.getD 0 0 = xs.getD 0 0 := rfl
  clear hk0 hlen hall hc
  have HT := Lib.hid ht
  have HA := Lib.hid ha
  clear ht ha
  go_enter Try.func3, Try.ntmps3
  go_wp2_with (at_builtin; refine append_ints rfl _ _ rfl w.heap.size _ _ [] xs rfl rfl (Own.nil _ _) HI.out (by have := HL.out; omega) (by have := HL.out; simp; omega) (Nat.le_refl _) (Up.refl _) (Nat.le_refl _) ?_)
  intro v w0 hown hup
  rcases hown.ints with ⟨he, _⟩ | ⟨_, _, b1, off1, c1, rfl, hc1⟩
  · exfalso; have := HL.out; (try simp at he); rw [he] at this; simp at this; omega
  have HIN := Lib.hid hown.ints
  have HC1 := Lib.hid hc1
  have HU0 := Lib.hid hup
  clear hown hup hc1
  go_wp2_with fail
  refine (node_ _ _).mono ?_
  rintro e w1 ⟨rfl, up1⟩
  rw [show ok1 (inB a 8) (nk a) = .tuple #[.int .i64 0, .int .i64 1] by rw [HA.out]; rfl]
  go_wp2_with fail
  refine (topic_ _ _).mono ?_
  rintro e w2 ⟨rfl, up2⟩
  rw [show ok1 (inB t 4) (tk t) = .tuple #[.int .i64 (tk t), .int .i64 0] by rw [HT.out]; rfl]
  go_wp2_with fail
  refine (gap_ _ _ _).mono ?_
  rintro e w3 ⟨rfl, up3⟩
  rw [show ok1 (inB t 4 && inB a 8) (gp t a) = .tuple #[.int .i64 0, .int .i64 1] by rw [HT.out, HA.out]; rfl]
  go_wp2_with fail
  refine (owner_ _ _ xs _ (HIN.out.up ((up1.trans up2).trans up3))).mono ?_
  rintro e w4 ⟨rfl, up4⟩
  obtain ⟨x, hx⟩ : ∃ x, xs.getD 0 0 = x := ⟨_, rfl⟩
  have HX := Lib.hid hx
  clear hx
  rw [show ownV t xs = .tuple #[.int .i64 (ow t x xs), .int .i64 0] by rw [← HX.out]; exact ownV_getD HT.out HALL.out (by have := HL.out; omega)]
  go_wp2_with fail
  refine (nearer_ _ _ _ _).mono ?_
  rintro e w5 ⟨rfl, up5⟩
  go_wp2_with fail
  refine (rnearer _ _ _ _).mono ?_
  rintro e w6 ⟨rfl, up6⟩
  obtain ⟨nb, hnb⟩ : ∃ nb, nr t a b = nb := ⟨_, rfl⟩
  rw [hnb]
  clear hnb
  have HU6 := Lib.hid (HU0.out.trans (((((up1.trans up2).trans up3).trans up4).trans up5).trans up6))
  have HC6 := Lib.hid (show ∀ j, j < xs.length → w6.cell? ⟨b1, off1 + j, none⟩ = some (.int .i64 (xs.getD j 0)) from fun j hj => (((((up1.trans up2).trans up3).trans up4).trans up5).trans up6).cell (HC1.out j hj))
  clear up1 up2 up3 up4 up5 up6
  go_wp2
  go_loopw [18] (fun i wr => ∃ k : Nat, k ≤ len ∧ i = .int .i64 k ∧ Up w6 wr) (fun i _ => len - (intOf i).toNat)
  case atStart => exact ⟨0, Nat.zero_le _, rfl, Up.refl _⟩
  case round =>
  obtain ⟨k, hk, rfl, hu⟩ := hrel
  have HU := Lib.hid hu
  clear hu
  by_cases hlt : k < len
  · have hcell := HU.out.cell (HU6.out.cell (HC.out k (by have := HL.out; omega)))
    have hcell1 := HU.out.cell (HC6.out k (by have := HL.out; omega))
    have hlx : k < xs.length := by have := HL.out; omega
    obtain ⟨q, hq⟩ : ∃ q, xs.getD k 0 = q := ⟨_, rfl⟩
    rw [hq] at hcell hcell1
    clear hq
    have hi1 : (k : Int) < (len : Int) := by omega
    have hi2 : (k : Int) < (xs.length : Int) := by omega
    have hi0 : (0 : Int) ≤ (k : Int) := by omega
    go_wp2_with fail
    go_quiet (fail)
    go_wp2
    exact ⟨⟨k + 1, by omega, by go_num, HU.out.trans (Up.drewN _ _)⟩, by simp [intOf]; omega⟩
  rename World => w7
  have HU7 := Lib.hid (HU6.out.trans HU.out)

  go_wp2_with fail
  refine (rnode _ _).mono ?_
  rintro e w8 ⟨rfl, up8⟩
  rw [HA.out]
  go_wp2_with fail
  refine (rtopic _ _).mono ?_
  rintro e w9 ⟨rfl, up9⟩
  rw [HT.out]
  go_wp2_with fail
  refine (rtk_ _ _ (inB_true.1 HT.out)).mono ?_
  rintro e w10 ⟨rfl, up10⟩
  go_wp2_with fail
  refine (rnode _ _).mono ?_
  rintro e w11 ⟨rfl, up11⟩
  rw [HA.out]
  go_wp2
  have HUa := Lib.hid ((((HU7.out.trans up8).trans up9).trans up10).trans up11)
  clear up8 up9 up10 up11
  clear hlt HU
  have HM := Lib.hid (allB_mem HALL.out)
  go_loopw [19] (fun i wr => ∃ k : Nat, k ≤ len ∧ i = .int .i64 k ∧ Up w11 wr) (fun i _ => len - (intOf i).toNat)
  case atStart => exact ⟨0, Nat.zero_le _, rfl, Up.refl _⟩
  case round =>
  obtain ⟨k, hk, rfl, hu⟩ := hrel
  have HUb := Lib.hid (HUa.out.trans hu)
  have HUc := Lib.hid hu
  clear hu
  by_cases hlt : k < len
  · have hcell := HUb.out.cell (HC.out k (by have := HL.out; omega))
    have hg := show inB (xs.getD k 0) 8 = true from inB_true.2 (HM.out _ (getD_mem (by have := HL.out; omega)))
    obtain ⟨q, hq⟩ : ∃ q, xs.getD k 0 = q := ⟨_, rfl⟩
    rw [hq] at hcell hg
    have HG := Lib.hid hg
    clear hq hg
    go_wp2_with fail
    refine (rnode _ _).mono ?_
    rintro e wz ⟨rfl, uz⟩
    rw [HG.out]
    go_wp2
    exact ⟨⟨k + 1, by omega, by go_num, HUc.out.trans uz⟩, by simp [intOf]; omega⟩
  · have hkk : k = len := by omega
    clear hkk
    go_wp2_with fail
    refine (rowner _ _ xs x _ (inB_true.1 HT.out) HALL.out (by have := HL.out; omega) HX.out (HI.out.up HUb.out)).mono ?_
    rintro e wz ⟨rfl, uz⟩
    go_wp2_with fail
    refine (wakes3 _).mono ?_
    rintro e wy ⟨rfl, uy⟩
    go_wp2
    go_ret
    exact ⟨rfl, (HUb.out.trans uz).trans uy⟩

set_option maxRecDepth 100000 in
set_option maxHeartbeats 4000000 in
theorem exactTFn (t a b : Int) (bl off len cap : Nat) (xs : List Int) (w : World) (ht : inB t 4 = true) (ha : inB a 8 = false) (hall : allB xs = false) (hlen : len = xs.length) (h0 : 0 < len) (h50 : len ≤ 50)
    (hc : ∀ j, j < xs.length → w.cell? ⟨bl, off + j, none⟩ = some (.int .i64 (xs.getD j 0))) :
    Calls Try.prog 3 #[.int .i64 t, .int .i64 a, .int .i64 b, .slice (some ⟨bl, off, none⟩) len cap] w (Ret (.bool true) w) := by
  have HI := Lib.hid (show Ints w (.slice (some ⟨bl, off, none⟩) len cap) xs from .inr ⟨by omega, by omega, bl, off, cap, by rw [hlen], hc⟩)
  have e1 : decide (50 < (len : Int)) = false := decide_eq_false (by omega)
  have e2 : ((len : Int) == 0) = false := by rw [beq_eq_false_iff_ne]; omega
  have HL := Lib.hid hlen
  have HALL := Lib.hid hall
  have HC := Lib.hid hc
  have hk0 : xs.getD 0 0 = xs.getD 0 0 := rfl
  clear hk0 hlen hall hc
  have HT := Lib.hid ht
  have HA := Lib.hid ha
  clear ht ha
  go_enter Try.func3, Try.ntmps3
  go_wp2_with (at_builtin; refine append_ints rfl _ _ rfl w.heap.size _ _ [] xs rfl rfl (Own.nil _ _) HI.out (by have := HL.out; omega) (by have := HL.out; simp; omega) (Nat.le_refl _) (Up.refl _) (Nat.le_refl _) ?_)
  intro v w0 hown hup
  rcases hown.ints with ⟨he, _⟩ | ⟨_, _, b1, off1, c1, rfl, hc1⟩
  · exfalso; have := HL.out; (try simp at he); rw [he] at this; simp at this; omega
  have HIN := Lib.hid hown.ints
  have HC1 := Lib.hid hc1
  have HU0 := Lib.hid hup
  clear hown hup hc1
  go_wp2_with fail
  refine (node_ _ _).mono ?_
  rintro e w1 ⟨rfl, up1⟩
  rw [show ok1 (inB a 8) (nk a) = .tuple #[.int .i64 0, .int .i64 1] by rw [HA.out]; rfl]
  go_wp2_with fail
  refine (topic_ _ _).mono ?_
  rintro e w2 ⟨rfl, up2⟩
  rw [show ok1 (inB t 4) (tk t) = .tuple #[.int .i64 (tk t), .int .i64 0] by rw [HT.out]; rfl]
  go_wp2_with fail
  refine (gap_ _ _ _).mono ?_
  rintro e w3 ⟨rfl, up3⟩
  rw [show ok1 (inB t 4 && inB a 8) (gp t a) = .tuple #[.int .i64 0, .int .i64 1] by rw [HT.out, HA.out]; rfl]
  go_wp2_with fail
  refine (owner_ _ _ xs _ (HIN.out.up ((up1.trans up2).trans up3))).mono ?_
  rintro e w4 ⟨rfl, up4⟩
  rw [show ownV t xs = .tuple #[.int .i64 0, .int .i64 1] by unfold ownV; rw [HT.out, HALL.out]; rfl]
  go_wp2_with fail
  refine (nearer_ _ _ _ _).mono ?_
  rintro e w5 ⟨rfl, up5⟩
  go_wp2_with fail
  refine (rnearer _ _ _ _).mono ?_
  rintro e w6 ⟨rfl, up6⟩
  obtain ⟨nb, hnb⟩ : ∃ nb, nr t a b = nb := ⟨_, rfl⟩
  rw [hnb]
  clear hnb
  have HU6 := Lib.hid (HU0.out.trans (((((up1.trans up2).trans up3).trans up4).trans up5).trans up6))
  have HC6 := Lib.hid (show ∀ j, j < xs.length → w6.cell? ⟨b1, off1 + j, none⟩ = some (.int .i64 (xs.getD j 0)) from fun j hj => (((((up1.trans up2).trans up3).trans up4).trans up5).trans up6).cell (HC1.out j hj))
  clear up1 up2 up3 up4 up5 up6
  go_wp2
  go_loopw [18] (fun i wr => ∃ k : Nat, k ≤ len ∧ i = .int .i64 k ∧ Up w6 wr) (fun i _ => len - (intOf i).toNat)
  case atStart => exact ⟨0, Nat.zero_le _, rfl, Up.refl _⟩
  case round =>
  obtain ⟨k, hk, rfl, hu⟩ := hrel
  have HU := Lib.hid hu
  clear hu
  by_cases hlt : k < len
  · have hcell := HU.out.cell (HU6.out.cell (HC.out k (by have := HL.out; omega)))
    have hcell1 := HU.out.cell (HC6.out k (by have := HL.out; omega))
    have hlx : k < xs.length := by have := HL.out; omega
    obtain ⟨q, hq⟩ : ∃ q, xs.getD k 0 = q := ⟨_, rfl⟩
    rw [hq] at hcell hcell1
    clear hq
    have hi1 : (k : Int) < (len : Int) := by omega
    have hi2 : (k : Int) < (xs.length : Int) := by omega
    have hi0 : (0 : Int) ≤ (k : Int) := by omega
    go_wp2_with fail
    go_quiet (fail)
    go_wp2
    exact ⟨⟨k + 1, by omega, by go_num, HU.out.trans (Up.drewN _ _)⟩, by simp [intOf]; omega⟩
  rename World => w7
  have HU7 := Lib.hid (HU6.out.trans HU.out)

  go_wp2_with fail
  refine (rnode _ _).mono ?_
  rintro e w8 ⟨rfl, up8⟩
  rw [HA.out]
  go_wp2_with fail
  refine (rtopic _ _).mono ?_
  rintro e w9 ⟨rfl, up9⟩
  rw [HT.out]
  go_wp2_with fail
  refine (rtk_ _ _ (inB_true.1 HT.out)).mono ?_
  rintro e w10 ⟨rfl, up10⟩
  go_wp2_with fail
  refine (rnode _ _).mono ?_
  rintro e w11 ⟨rfl, up11⟩
  rw [HA.out]
  go_wp2
  have HUa := Lib.hid ((((HU7.out.trans up8).trans up9).trans up10).trans up11)
  clear up8 up9 up10 up11
  clear hlt HU
  obtain ⟨k0, hk0, hbad, hgood⟩ := allB_getD HALL.out
  have HBAD := Lib.hid hbad
  have HGOOD := Lib.hid hgood
  clear hbad hgood
  go_loopw [19] (fun i wr => ∃ k : Nat, k ≤ k0 ∧ i = .int .i64 k ∧ Up w11 wr) (fun i _ => len - (intOf i).toNat)
  case atStart => exact ⟨0, Nat.zero_le _, rfl, Up.refl _⟩
  case round =>
  obtain ⟨k, hk, rfl, hu⟩ := hrel
  have HUb := Lib.hid (HUa.out.trans hu)
  have HUc := Lib.hid hu
  clear hu
  have hkl : k < len := by have := HL.out; omega
  have hcell := HUb.out.cell (HC.out k (by have := HL.out; omega))
  obtain ⟨q, hq⟩ : ∃ q, xs.getD k 0 = q := ⟨_, rfl⟩
  rw [hq] at hcell
  have HQ := Lib.hid hq
  clear hq
  by_cases hlt : k < k0
  · have hg := Lib.hid (show inB q 8 = true by rw [← HQ.out]; exact HGOOD.out k hlt)
    go_wp2_with fail
    refine (rnode _ _).mono ?_
    rintro e wz ⟨rfl, uz⟩
    rw [hg.out]
    go_wp2
    exact ⟨⟨k + 1, by omega, by go_num, HUc.out.trans uz⟩, by simp [intOf]; omega⟩
  · obtain rfl : k = k0 := by omega
    go_wp2_with fail
    refine (rnode _ _).mono ?_
    rintro e wz ⟨rfl, uz⟩
    rw [show inB q 8 = false by rw [← HQ.out]; exact HBAD.out]
    go_wp2_with fail
    refine (wakes3 _).mono ?_
    rintro e wy ⟨rfl, uy⟩
    go_wp2
    go_ret
    exact ⟨rfl, (HUb.out.trans uz).trans uy⟩

set_option maxRecDepth 100000 in
set_option maxHeartbeats 4000000 in
theorem exactTTe (t a b : Int) (A : Option Addr) (cap : Nat) (w : World) (ht : inB t 4 = true) (ha : inB a 8 = true) :
    Calls Try.prog 3 #[.int .i64 t, .int .i64 a, .int .i64 b, .slice A 0 cap] w (Ret (.bool true) w) := by
  have HT := Lib.hid ht
  have HA := Lib.hid ha
  clear ht ha
  go_enter Try.func3, Try.ntmps3
  go_wp2_with (at_builtin; refine append_none rfl _ _ rfl rfl A cap rfl rfl ?_)
  go_wp2_with fail
  refine (node_ _ _).mono ?_
  rintro e w1 ⟨rfl, up1⟩
  rw [show ok1 (inB a 8) (nk a) = .tuple #[.int .i64 (nk a), .int .i64 0] by rw [HA.out]; rfl]
  go_wp2_with fail
  refine (topic_ _ _).mono ?_
  rintro e w2 ⟨rfl, up2⟩
  rw [show ok1 (inB t 4) (tk t) = .tuple #[.int .i64 (tk t), .int .i64 0] by rw [HT.out]; rfl]
  go_wp2_with fail
  refine (gap_ _ _ _).mono ?_
  rintro e w3 ⟨rfl, up3⟩
  rw [show ok1 (inB t 4 && inB a 8) (gp t a) = .tuple #[.int .i64 (gp t a), .int .i64 0] by rw [HT.out, HA.out]; rfl]
  go_wp2_with fail
  refine (owner_ _ _ [] _ (Ints.nil _ _ _)).mono ?_
  rintro e w4 ⟨rfl, up4⟩
  rw [show ownV t [] = .tuple #[.int .i64 0, .int .i64 7] by unfold ownV; rw [HT.out]; rfl]
  go_wp2_with fail
  refine (nearer_ _ _ _ _).mono ?_
  rintro e w5 ⟨rfl, up5⟩
  go_wp2_with fail
  refine (rnearer _ _ _ _).mono ?_
  rintro e w6 ⟨rfl, up6⟩
  obtain ⟨nb, hnb⟩ : ∃ nb, nr t a b = nb := ⟨_, rfl⟩
  rw [hnb]
  clear hnb
  have HU6 := Lib.hid (((((up1.trans up2).trans up3).trans up4).trans up5).trans up6)
  clear up1 up2 up3 up4 up5 up6
  go_wp2
  go_loopw [18] (fun i wr => i = .int .i64 0 ∧ wr = w6) (fun _ _ => 0)
  case atStart => exact ⟨rfl, rfl⟩
  case round =>
  obtain ⟨rfl, rfl⟩ := hrel
  rename World => w7
  have HU7 := HU6
  go_wp2_with fail
  refine (rnode _ _).mono ?_
  rintro e w8 ⟨rfl, up8⟩
  rw [HA.out]
  go_wp2_with fail
  refine (rnk_ _ _ (inB_true.1 HA.out)).mono ?_
  rintro e w9 ⟨rfl, up9⟩
  go_wp2_with fail
  refine (rtopic _ _).mono ?_
  rintro e w10 ⟨rfl, up10⟩
  rw [HT.out]
  go_wp2_with fail
  refine (rtk_ _ _ (inB_true.1 HT.out)).mono ?_
  rintro e w11 ⟨rfl, up11⟩
  go_wp2_with fail
  refine (rnode _ _).mono ?_
  rintro e w12 ⟨rfl, up12⟩
  rw [HA.out]
  go_wp2_with fail
  refine (rgap _ _ _ (inB_true.1 HT.out) (inB_true.1 HA.out)).mono ?_
  rintro e w13 ⟨rfl, up13⟩
  go_wp2
  go_loopw [19] (fun i wr => i = .int .i64 0 ∧ wr = w13) (fun _ _ => 0)
  case atStart => exact ⟨rfl, rfl⟩
  case round =>
  obtain ⟨rfl, rfl⟩ := hrel
  go_wp2_with fail
  refine (wakes3 _).mono ?_
  rintro e w14 ⟨rfl, up14⟩
  go_wp2
  go_ret
  exact ⟨rfl, (((((((HU7.out.trans up8).trans up9).trans up10).trans up11).trans up12).trans up13).trans up14)⟩

set_option maxRecDepth 100000 in
set_option maxHeartbeats 4000000 in
theorem exactTTa (t a b : Int) (bl off len cap : Nat) (xs : List Int) (w : World) (ht : inB t 4 = true) (ha : inB a 8 = true) (hall : allB xs = true) (hlen : len = xs.length) (h0 : 0 < len) (h50 : len ≤ 50)
    (hc : ∀ j, j < xs.length → w.cell? ⟨bl, off + j, none⟩ = some (.int .i64 (xs.getD j 0))) :
    Calls Try.prog 3 #[.int .i64 t, .int .i64 a, .int .i64 b, .slice (some ⟨bl, off, none⟩) len cap] w (Ret (.bool true) w) := by
  have HI := Lib.hid (show Ints w (.slice (some ⟨bl, off, none⟩) len cap) xs from .inr ⟨by omega, by omega, bl, off, cap, by rw [hlen], hc⟩)
  have e1 : decide (50 < (len : Int)) = false := decide_eq_false (by omega)
  have e2 : ((len : Int) == 0) = false := by rw [beq_eq_false_iff_ne]; omega
  have HL := Lib.hid hlen
  have HALL := Lib.hid hall
  have HC := Lib.hid hc
  have hk0 : xs.getD 0 0 = xs.getD 0 0 := rfl
  clear hk0 hlen hall hc
  have HT := Lib.hid ht
  have HA := Lib.hid ha
  clear ht ha
  go_enter Try.func3, Try.ntmps3
  go_wp2_with (at_builtin; refine append_ints rfl _ _ rfl w.heap.size _ _ [] xs rfl rfl (Own.nil _ _) HI.out (by have := HL.out; omega) (by have := HL.out; simp; omega) (Nat.le_refl _) (Up.refl _) (Nat.le_refl _) ?_)
  intro v w0 hown hup
  rcases hown.ints with ⟨he, _⟩ | ⟨_, _, b1, off1, c1, rfl, hc1⟩
  · exfalso; have := HL.out; (try simp at he); rw [he] at this; simp at this; omega
  have HIN := Lib.hid hown.ints
  have HC1 := Lib.hid hc1
  have HU0 := Lib.hid hup
  clear hown hup hc1
  go_wp2_with fail
  refine (node_ _ _).mono ?_
  rintro e w1 ⟨rfl, up1⟩
  rw [show ok1 (inB a 8) (nk a) = .tuple #[.int .i64 (nk a), .int .i64 0] by rw [HA.out]; rfl]
  go_wp2_with fail
  refine (topic_ _ _).mono ?_
  rintro e w2 ⟨rfl, up2⟩
  rw [show ok1 (inB t 4) (tk t) = .tuple #[.int .i64 (tk t), .int .i64 0] by rw [HT.out]; rfl]
  go_wp2_with fail
  refine (gap_ _ _ _).mono ?_
  rintro e w3 ⟨rfl, up3⟩
  rw [show ok1 (inB t 4 && inB a 8) (gp t a) = .tuple #[.int .i64 (gp t a), .int .i64 0] by rw [HT.out, HA.out]; rfl]
  go_wp2_with fail
  refine (owner_ _ _ xs _ (HIN.out.up ((up1.trans up2).trans up3))).mono ?_
  rintro e w4 ⟨rfl, up4⟩
  obtain ⟨x, hx⟩ : ∃ x, xs.getD 0 0 = x := ⟨_, rfl⟩
  have HX := Lib.hid hx
  clear hx
  rw [show ownV t xs = .tuple #[.int .i64 (ow t x xs), .int .i64 0] by rw [← HX.out]; exact ownV_getD HT.out HALL.out (by have := HL.out; omega)]
  go_wp2_with fail
  refine (nearer_ _ _ _ _).mono ?_
  rintro e w5 ⟨rfl, up5⟩
  go_wp2_with fail
  refine (rnearer _ _ _ _).mono ?_
  rintro e w6 ⟨rfl, up6⟩
  obtain ⟨nb, hnb⟩ : ∃ nb, nr t a b = nb := ⟨_, rfl⟩
  rw [hnb]
  clear hnb
  have HU6 := Lib.hid (HU0.out.trans (((((up1.trans up2).trans up3).trans up4).trans up5).trans up6))
  have HC6 := Lib.hid (show ∀ j, j < xs.length → w6.cell? ⟨b1, off1 + j, none⟩ = some (.int .i64 (xs.getD j 0)) from fun j hj => (((((up1.trans up2).trans up3).trans up4).trans up5).trans up6).cell (HC1.out j hj))
  clear up1 up2 up3 up4 up5 up6
  go_wp2
  go_loopw [18] (fun i wr => ∃ k : Nat, k ≤ len ∧ i = .int .i64 k ∧ Up w6 wr) (fun i _ => len - (intOf i).toNat)
  case atStart => exact ⟨0, Nat.zero_le _, rfl, Up.refl _⟩
  case round =>
  obtain ⟨k, hk, rfl, hu⟩ := hrel
  have HU := Lib.hid hu
  clear hu
  by_cases hlt : k < len
  · have hcell := HU.out.cell (HU6.out.cell (HC.out k (by have := HL.out; omega)))
    have hcell1 := HU.out.cell (HC6.out k (by have := HL.out; omega))
    have hlx : k < xs.length := by have := HL.out; omega
    obtain ⟨q, hq⟩ : ∃ q, xs.getD k 0 = q := ⟨_, rfl⟩
    rw [hq] at hcell hcell1
    clear hq
    have hi1 : (k : Int) < (len : Int) := by omega
    have hi2 : (k : Int) < (xs.length : Int) := by omega
    have hi0 : (0 : Int) ≤ (k : Int) := by omega
    go_wp2_with fail
    go_quiet (fail)
    go_wp2
    exact ⟨⟨k + 1, by omega, by go_num, HU.out.trans (Up.drewN _ _)⟩, by simp [intOf]; omega⟩
  rename World => w7
  have HU7 := Lib.hid (HU6.out.trans HU.out)

  go_wp2_with fail
  refine (rnode _ _).mono ?_
  rintro e w8 ⟨rfl, up8⟩
  rw [HA.out]
  go_wp2_with fail
  refine (rnk_ _ _ (inB_true.1 HA.out)).mono ?_
  rintro e w9 ⟨rfl, up9⟩
  go_wp2_with fail
  refine (rtopic _ _).mono ?_
  rintro e w10 ⟨rfl, up10⟩
  rw [HT.out]
  go_wp2_with fail
  refine (rtk_ _ _ (inB_true.1 HT.out)).mono ?_
  rintro e w11 ⟨rfl, up11⟩
  go_wp2_with fail
  refine (rnode _ _).mono ?_
  rintro e w12 ⟨rfl, up12⟩
  rw [HA.out]
  go_wp2_with fail
  refine (rgap _ _ _ (inB_true.1 HT.out) (inB_true.1 HA.out)).mono ?_
  rintro e w13 ⟨rfl, up13⟩
  go_wp2
  have HUa := Lib.hid ((((((HU7.out.trans up8).trans up9).trans up10).trans up11).trans up12).trans up13)
  clear up8 up9 up10 up11 up12 up13
  clear hlt HU
  have HM := Lib.hid (allB_mem HALL.out)
  go_loopw [19] (fun i wr => ∃ k : Nat, k ≤ len ∧ i = .int .i64 k ∧ Up w13 wr) (fun i _ => len - (intOf i).toNat)
  case atStart => exact ⟨0, Nat.zero_le _, rfl, Up.refl _⟩
  case round =>
  obtain ⟨k, hk, rfl, hu⟩ := hrel
  have HUb := Lib.hid (HUa.out.trans hu)
  have HUc := Lib.hid hu
  clear hu
  by_cases hlt : k < len
  · have hcell := HUb.out.cell (HC.out k (by have := HL.out; omega))
    have hg := show inB (xs.getD k 0) 8 = true from inB_true.2 (HM.out _ (getD_mem (by have := HL.out; omega)))
    obtain ⟨q, hq⟩ : ∃ q, xs.getD k 0 = q := ⟨_, rfl⟩
    rw [hq] at hcell hg
    have HG := Lib.hid hg
    clear hq hg
    go_wp2_with fail
    refine (rnode _ _).mono ?_
    rintro e wz ⟨rfl, uz⟩
    rw [HG.out]
    go_wp2
    exact ⟨⟨k + 1, by omega, by go_num, HUc.out.trans uz⟩, by simp [intOf]; omega⟩
  · have hkk : k = len := by omega
    clear hkk
    go_wp2_with fail
    refine (rowner _ _ xs x _ (inB_true.1 HT.out) HALL.out (by have := HL.out; omega) HX.out (HI.out.up HUb.out)).mono ?_
    rintro e wz ⟨rfl, uz⟩
    go_wp2_with fail
    refine (wakes3 _).mono ?_
    rintro e wy ⟨rfl, uy⟩
    go_wp2
    go_ret
    exact ⟨rfl, (HUb.out.trans uz).trans uy⟩

set_option maxRecDepth 100000 in
set_option maxHeartbeats 4000000 in
theorem exactTTn (t a b : Int) (bl off len cap : Nat) (xs : List Int) (w : World) (ht : inB t 4 = true) (ha : inB a 8 = true) (hall : allB xs = false) (hlen : len = xs.length) (h0 : 0 < len) (h50 : len ≤ 50)
    (hc : ∀ j, j < xs.length → w.cell? ⟨bl, off + j, none⟩ = some (.int .i64 (xs.getD j 0))) :
    Calls Try.prog 3 #[.int .i64 t, .int .i64 a, .int .i64 b, .slice (some ⟨bl, off, none⟩) len cap] w (Ret (.bool true) w) := by
  have HI := Lib.hid (show Ints w (.slice (some ⟨bl, off, none⟩) len cap) xs from .inr ⟨by omega, by omega, bl, off, cap, by rw [hlen], hc⟩)
  have e1 : decide (50 < (len : Int)) = false := decide_eq_false (by omega)
  have e2 : ((len : Int) == 0) = false := by rw [beq_eq_false_iff_ne]; omega
  have HL := Lib.hid hlen
  have HALL := Lib.hid hall
  have HC := Lib.hid hc
  have hk0 : xs.getD 0 0 = xs.getD 0 0 := rfl
  clear hk0 hlen hall hc
  have HT := Lib.hid ht
  have HA := Lib.hid ha
  clear ht ha
  go_enter Try.func3, Try.ntmps3
  go_wp2_with (at_builtin; refine append_ints rfl _ _ rfl w.heap.size _ _ [] xs rfl rfl (Own.nil _ _) HI.out (by have := HL.out; omega) (by have := HL.out; simp; omega) (Nat.le_refl _) (Up.refl _) (Nat.le_refl _) ?_)
  intro v w0 hown hup
  rcases hown.ints with ⟨he, _⟩ | ⟨_, _, b1, off1, c1, rfl, hc1⟩
  · exfalso; have := HL.out; (try simp at he); rw [he] at this; simp at this; omega
  have HIN := Lib.hid hown.ints
  have HC1 := Lib.hid hc1
  have HU0 := Lib.hid hup
  clear hown hup hc1
  go_wp2_with fail
  refine (node_ _ _).mono ?_
  rintro e w1 ⟨rfl, up1⟩
  rw [show ok1 (inB a 8) (nk a) = .tuple #[.int .i64 (nk a), .int .i64 0] by rw [HA.out]; rfl]
  go_wp2_with fail
  refine (topic_ _ _).mono ?_
  rintro e w2 ⟨rfl, up2⟩
  rw [show ok1 (inB t 4) (tk t) = .tuple #[.int .i64 (tk t), .int .i64 0] by rw [HT.out]; rfl]
  go_wp2_with fail
  refine (gap_ _ _ _).mono ?_
  rintro e w3 ⟨rfl, up3⟩
  rw [show ok1 (inB t 4 && inB a 8) (gp t a) = .tuple #[.int .i64 (gp t a), .int .i64 0] by rw [HT.out, HA.out]; rfl]
  go_wp2_with fail
  refine (owner_ _ _ xs _ (HIN.out.up ((up1.trans up2).trans up3))).mono ?_
  rintro e w4 ⟨rfl, up4⟩
  rw [show ownV t xs = .tuple #[.int .i64 0, .int .i64 1] by unfold ownV; rw [HT.out, HALL.out]; rfl]
  go_wp2_with fail
  refine (nearer_ _ _ _ _).mono ?_
  rintro e w5 ⟨rfl, up5⟩
  go_wp2_with fail
  refine (rnearer _ _ _ _).mono ?_
  rintro e w6 ⟨rfl, up6⟩
  obtain ⟨nb, hnb⟩ : ∃ nb, nr t a b = nb := ⟨_, rfl⟩
  rw [hnb]
  clear hnb
  have HU6 := Lib.hid (HU0.out.trans (((((up1.trans up2).trans up3).trans up4).trans up5).trans up6))
  have HC6 := Lib.hid (show ∀ j, j < xs.length → w6.cell? ⟨b1, off1 + j, none⟩ = some (.int .i64 (xs.getD j 0)) from fun j hj => (((((up1.trans up2).trans up3).trans up4).trans up5).trans up6).cell (HC1.out j hj))
  clear up1 up2 up3 up4 up5 up6
  go_wp2
  go_loopw [18] (fun i wr => ∃ k : Nat, k ≤ len ∧ i = .int .i64 k ∧ Up w6 wr) (fun i _ => len - (intOf i).toNat)
  case atStart => exact ⟨0, Nat.zero_le _, rfl, Up.refl _⟩
  case round =>
  obtain ⟨k, hk, rfl, hu⟩ := hrel
  have HU := Lib.hid hu
  clear hu
  by_cases hlt : k < len
  · have hcell := HU.out.cell (HU6.out.cell (HC.out k (by have := HL.out; omega)))
    have hcell1 := HU.out.cell (HC6.out k (by have := HL.out; omega))
    have hlx : k < xs.length := by have := HL.out; omega
    obtain ⟨q, hq⟩ : ∃ q, xs.getD k 0 = q := ⟨_, rfl⟩
    rw [hq] at hcell hcell1
    clear hq
    have hi1 : (k : Int) < (len : Int) := by omega
    have hi2 : (k : Int) < (xs.length : Int) := by omega
    have hi0 : (0 : Int) ≤ (k : Int) := by omega
    go_wp2_with fail
    go_quiet (fail)
    go_wp2
    exact ⟨⟨k + 1, by omega, by go_num, HU.out.trans (Up.drewN _ _)⟩, by simp [intOf]; omega⟩
  rename World => w7
  have HU7 := Lib.hid (HU6.out.trans HU.out)

  go_wp2_with fail
  refine (rnode _ _).mono ?_
  rintro e w8 ⟨rfl, up8⟩
  rw [HA.out]
  go_wp2_with fail
  refine (rnk_ _ _ (inB_true.1 HA.out)).mono ?_
  rintro e w9 ⟨rfl, up9⟩
  go_wp2_with fail
  refine (rtopic _ _).mono ?_
  rintro e w10 ⟨rfl, up10⟩
  rw [HT.out]
  go_wp2_with fail
  refine (rtk_ _ _ (inB_true.1 HT.out)).mono ?_
  rintro e w11 ⟨rfl, up11⟩
  go_wp2_with fail
  refine (rnode _ _).mono ?_
  rintro e w12 ⟨rfl, up12⟩
  rw [HA.out]
  go_wp2_with fail
  refine (rgap _ _ _ (inB_true.1 HT.out) (inB_true.1 HA.out)).mono ?_
  rintro e w13 ⟨rfl, up13⟩
  go_wp2
  have HUa := Lib.hid ((((((HU7.out.trans up8).trans up9).trans up10).trans up11).trans up12).trans up13)
  clear up8 up9 up10 up11 up12 up13
  clear hlt HU
  obtain ⟨k0, hk0, hbad, hgood⟩ := allB_getD HALL.out
  have HBAD := Lib.hid hbad
  have HGOOD := Lib.hid hgood
  clear hbad hgood
  go_loopw [19] (fun i wr => ∃ k : Nat, k ≤ k0 ∧ i = .int .i64 k ∧ Up w13 wr) (fun i _ => len - (intOf i).toNat)
  case atStart => exact ⟨0, Nat.zero_le _, rfl, Up.refl _⟩
  case round =>
  obtain ⟨k, hk, rfl, hu⟩ := hrel
  have HUb := Lib.hid (HUa.out.trans hu)
  have HUc := Lib.hid hu
  clear hu
  have hkl : k < len := by have := HL.out; omega
  have hcell := HUb.out.cell (HC.out k (by have := HL.out; omega))
  obtain ⟨q, hq⟩ : ∃ q, xs.getD k 0 = q := ⟨_, rfl⟩
  rw [hq] at hcell
  have HQ := Lib.hid hq
  clear hq
  by_cases hlt : k < k0
  · have hg := Lib.hid (show inB q 8 = true by rw [← HQ.out]; exact HGOOD.out k hlt)
    go_wp2_with fail
    refine (rnode _ _).mono ?_
    rintro e wz ⟨rfl, uz⟩
    rw [hg.out]
    go_wp2
    exact ⟨⟨k + 1, by omega, by go_num, HUc.out.trans uz⟩, by simp [intOf]; omega⟩
  · obtain rfl : k = k0 := by omega
    go_wp2_with fail
    refine (rnode _ _).mono ?_
    rintro e wz ⟨rfl, uz⟩
    rw [show inB q 8 = false by rw [← HQ.out]; exact HBAD.out]
    go_wp2_with fail
    refine (wakes3 _).mono ?_
    rintro e wy ⟨rfl, uy⟩
    go_wp2
    go_ret
    exact ⟨rfl, (HUb.out.trans uz).trans uy⟩

set_option maxRecDepth 100000 in
/-- The law, for whatever comes in. -/
theorem exact_any (t a b : Int) (A : Option Addr) (len cap : Nat) (xs : List Int) (w : World) (hv : Ints w (.slice A len cap) xs) :
    Calls Try.prog 3 #[.int .i64 t, .int .i64 a, .int .i64 b, .slice A len cap] w (Ret (.bool true) w) := by
  rcases hv with ⟨rfl, A', c', e⟩ | ⟨h0, hl, b0, off, cap', e, hc⟩
  · obtain ⟨rfl, rfl, rfl⟩ := by simpa using e
    cases ht : inB t 4 <;> cases ha : inB a 8
    · exact exactFFe t a b A cap w ht ha
    · exact exactFTe t a b A cap w ht ha
    · exact exactTFe t a b A cap w ht ha
    · exact exactTTe t a b A cap w ht ha
  · obtain ⟨rfl, rfl, rfl⟩ := by simpa using e
    by_cases h50 : xs.length ≤ 50
    · cases ht : inB t 4 <;> cases ha : inB a 8 <;> cases hall : allB xs
      · exact exactFFn t a b b0 off _ cap xs w ht ha hall rfl h0 h50 hc
      · exact exactFFa t a b b0 off _ cap xs w ht ha hall rfl h0 h50 hc
      · exact exactFTn t a b b0 off _ cap xs w ht ha hall rfl h0 h50 hc
      · exact exactFTa t a b b0 off _ cap xs w ht ha hall rfl h0 h50 hc
      · exact exactTFn t a b b0 off _ cap xs w ht ha hall rfl h0 h50 hc
      · exact exactTFa t a b b0 off _ cap xs w ht ha hall rfl h0 h50 hc
      · exact exactTTn t a b b0 off _ cap xs w ht ha hall rfl h0 h50 hc
      · exact exactTTa t a b b0 off _ cap xs w ht ha hall rfl h0 h50 hc
    · have e1 : decide (50 < (xs.length : Int)) = true := decide_eq_true (by omega)
      clear h50 e hc
      go_enter Try.func3, Try.ntmps3
      go_wp2
      go_ret
      exact ⟨rfl, Up.refl _⟩

end Go.Proofs.Yteeibpeefhaoiaa
