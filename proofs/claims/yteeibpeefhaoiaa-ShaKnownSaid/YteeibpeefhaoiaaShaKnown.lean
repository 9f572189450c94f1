/- The law ShaKnown returns true for every input: the walk. No condition. -/
import Derived.Test.YteeibpeefhaoiaaShaL
import Derived.Deep.RegionWith
namespace Go.Proofs.Yteeibpeefhaoiaa
open Go.RowKit
set_option linter.unusedVariables false

def tx0 : ByteArray := ⟨#[]⟩
def sm0 : ByteArray := ⟨#[101, 51, 98, 48, 99, 52, 52, 50, 57, 56, 102, 99, 49, 99, 49, 52, 57, 97, 102, 98, 102, 52, 99, 56, 57, 57, 54, 102, 98, 57, 50, 52, 50, 55, 97, 101, 52, 49, 101, 52, 54, 52, 57, 98, 57, 51, 52, 99, 97, 52, 57, 53, 57, 57, 49, 98, 55, 56, 53, 50, 98, 56, 53, 53]⟩
def tx1 : ByteArray := ⟨#[97, 98, 99]⟩
def sm1 : ByteArray := ⟨#[98, 97, 55, 56, 49, 54, 98, 102, 56, 102, 48, 49, 99, 102, 101, 97, 52, 49, 52, 49, 52, 48, 100, 101, 53, 100, 97, 101, 50, 50, 50, 51, 98, 48, 48, 51, 54, 49, 97, 51, 57, 54, 49, 55, 55, 97, 57, 99, 98, 52, 49, 48, 102, 102, 54, 49, 102, 50, 48, 48, 49, 53, 97, 100]⟩
def tx2 : ByteArray := ⟨#[97, 98, 99, 100, 98, 99, 100, 101, 99, 100, 101, 102, 100, 101, 102, 103, 101, 102, 103, 104, 102, 103, 104, 105, 103, 104, 105, 106, 104, 105, 106, 107, 105, 106, 107, 108, 106, 107, 108, 109, 107, 108, 109, 110, 108, 109, 110, 111, 109, 110, 111, 112, 110, 111, 112, 113]⟩
def sm2 : ByteArray := ⟨#[50, 52, 56, 100, 54, 97, 54, 49, 100, 50, 48, 54, 51, 56, 98, 56, 101, 53, 99, 48, 50, 54, 57, 51, 48, 99, 51, 101, 54, 48, 51, 57, 97, 51, 51, 99, 101, 52, 53, 57, 54, 52, 102, 102, 50, 49, 54, 55, 102, 54, 101, 99, 101, 100, 100, 52, 49, 57, 100, 98, 48, 54, 99, 49]⟩
def tx3 : ByteArray := ⟨#[97, 98, 99, 100, 101, 102, 103, 104, 98, 99, 100, 101, 102, 103, 104, 105, 99, 100, 101, 102, 103, 104, 105, 106, 100, 101, 102, 103, 104, 105, 106, 107, 101, 102, 103, 104, 105, 106, 107, 108, 102, 103, 104, 105, 106, 107, 108, 109, 103, 104, 105, 106, 107, 108, 109, 110, 104, 105, 106, 107, 108, 109, 110, 111, 105, 106, 107, 108, 109, 110, 111, 112, 106, 107, 108, 109, 110, 111, 112, 113, 107, 108, 109, 110, 111, 112, 113, 114, 108, 109, 110, 111, 112, 113, 114, 115, 109, 110, 111, 112, 113, 114, 115, 116, 110, 111, 112, 113, 114, 115, 116, 117]⟩
def sm3 : ByteArray := ⟨#[99, 102, 53, 98, 49, 54, 97, 55, 55, 56, 97, 102, 56, 51, 56, 48, 48, 51, 54, 99, 101, 53, 57, 101, 55, 98, 48, 52, 57, 50, 51, 55, 48, 98, 50, 52, 57, 98, 49, 49, 101, 56, 102, 48, 55, 97, 53, 49, 97, 102, 97, 99, 52, 53, 48, 51, 55, 97, 102, 101, 101, 57, 100, 49]⟩
theorem tx0_hex : strOfNums (hexL (shaL (strB tx0))) = sm0 := by decide +kernel
theorem tx1_hex : strOfNums (hexL (shaL (strB tx1))) = sm1 := by decide +kernel
theorem tx2_hex : strOfNums (hexL (shaL (strB tx2))) = sm2 := by decide +kernel
theorem tx3_hex : strOfNums (hexL (shaL (strB tx3))) = sm3 := by decide +kernel
theorem tx0_len : tx0.size = 0 := by decide +kernel
theorem tx1_len : tx1.size = 3 := by decide +kernel
theorem tx2_len : tx2.size = 56 := by decide +kernel
theorem tx3_len : tx3.size = 112 := by decide +kernel

theorem two_cell0 (w : World) (A B : Array Value) (e e' : TypeId) (k : Nat) (v : Value) (h : A[k]? = some v) : ((w.alloc (.cells A e)).alloc (.cells B e')).cell? ⟨w.heap.size, k, none⟩ = some v :=
  (Up.alloc _ _).cell ((World.cell?_alloc_new w A e k).trans h)
theorem two_cell1 (w : World) (A B : Array Value) (e e' : TypeId) (k : Nat) (v : Value) (h : B[k]? = some v) : ((w.alloc (.cells A e)).alloc (.cells B e')).cell? ⟨w.heap.size + 1, k, none⟩ = some v := by
  have hs : (w.alloc (.cells A e)).heap.size = w.heap.size + 1 := by simp
  have := (World.cell?_alloc_new (w.alloc (.cells A e)) B e' k).trans h
  rwa [hs] at this
set_option maxRecDepth 100000 in
set_option maxHeartbeats 8000000 in
theorem known_0 (n : Int) (w : World) (hk : (IntKind.u64.wrap n).tmod 4 = 0) : Calls Try.prog 8 #[.int .i64 n] w (Ret (.bool true) w) := by
  go_enter Try.func8, Try.ntmps8
  go_wp2_with fail
  generalize hW : (World.alloc _ _) = W
  have c1 : W.cell? ⟨w.heap.size, 0, none⟩ = some (.string tx0) := by
    rw [← hW]; exact two_cell0 w _ _ _ _ _ _ rfl
  have c2 : W.cell? ⟨w.heap.size + 1, 0, none⟩ = some (.string sm0) := by
    rw [← hW]; exact two_cell1 w _ _ _ _ _ _ rfl
  have HU := Lib.hid (show Up w W by rw [← hW]; exact (Up.alloc _ _).trans (Up.alloc _ _))
  have HX := Lib.hid (tx0_hex)
  have HL := Lib.hid (tx0_len)
  clear hW
  generalize tx0 = T at *
  generalize sm0 = S at *
  have hcv := fun W' => conv_bytes W' T
  have cb1 := (Up.bytes W.drew 5 T).cell (a := ⟨w.heap.size, 0, none⟩) c1
  have cb2 := (Up.bytes W.drew 5 T).cell (a := ⟨w.heap.size + 1, 0, none⟩) c2
  have hcv2 := hcv W.drew
  go_region_with
    (first
      | (go_at_call 28
         refine (sum_ _ (strB T) _ (Rd.bytes W.drew 5 T ?_) (strB_in T) ?_).mono ?_
         (rw [HL.out]; omega)
         (rw [strB_len, HL.out]; omega)
         rintro e0 w1 ⟨v1, rfl, o1, u1⟩
         have cc1 := u1.cell cb1
         have cc2 := u1.cell cb2
         have HO1 := Lib.hid o1
         have HU1 := Lib.hid u1
         clear o1 u1)
      | (go_at_call 31
         refine (hex_ v1 _ w1 HO1.out.rd (shaL_in _) ?_).mono ?_
         (rw [shaL_len]; omega)
         rintro e0 w2 ⟨rfl, u2⟩
         rw [HX.out]
         have cd2 := u2.cell cc2
         have HU2 := Lib.hid u2
         clear u2)
      | (go_at_call 35
         refine (wakes_ w2).mono ?_
         rintro e0 w3 ⟨rfl, u3⟩
         have HU3 := Lib.hid u3
         clear u3))
  all_goals
    have HF := Lib.hid (HU.out.trans ((Up.drew W).trans ((Up.bytes W.drew 5 T).trans (HU1.out.trans (HU2.out.trans HU3.out)))))
    go_wp2
    go_ret
    exact ⟨rfl, HF.out⟩

set_option maxRecDepth 100000 in
set_option maxHeartbeats 8000000 in
theorem known_1 (n : Int) (w : World) (hk : (IntKind.u64.wrap n).tmod 4 = 1) : Calls Try.prog 8 #[.int .i64 n] w (Ret (.bool true) w) := by
  go_enter Try.func8, Try.ntmps8
  go_wp2_with fail
  generalize hW : (World.alloc _ _) = W
  have c1 : W.cell? ⟨w.heap.size, 1, none⟩ = some (.string tx1) := by
    rw [← hW]; exact two_cell0 w _ _ _ _ _ _ rfl
  have c2 : W.cell? ⟨w.heap.size + 1, 1, none⟩ = some (.string sm1) := by
    rw [← hW]; exact two_cell1 w _ _ _ _ _ _ rfl
  have HU := Lib.hid (show Up w W by rw [← hW]; exact (Up.alloc _ _).trans (Up.alloc _ _))
  have HX := Lib.hid (tx1_hex)
  have HL := Lib.hid (tx1_len)
  clear hW
  generalize tx1 = T at *
  generalize sm1 = S at *
  have hcv := fun W' => conv_bytes W' T
  have cb1 := (Up.bytes W.drew 5 T).cell (a := ⟨w.heap.size, 1, none⟩) c1
  have cb2 := (Up.bytes W.drew 5 T).cell (a := ⟨w.heap.size + 1, 1, none⟩) c2
  have hcv2 := hcv W.drew
  go_region_with
    (first
      | (go_at_call 28
         refine (sum_ _ (strB T) _ (Rd.bytes W.drew 5 T ?_) (strB_in T) ?_).mono ?_
         (rw [HL.out]; omega)
         (rw [strB_len, HL.out]; omega)
         rintro e0 w1 ⟨v1, rfl, o1, u1⟩
         have cc1 := u1.cell cb1
         have cc2 := u1.cell cb2
         have HO1 := Lib.hid o1
         have HU1 := Lib.hid u1
         clear o1 u1)
      | (go_at_call 31
         refine (hex_ v1 _ w1 HO1.out.rd (shaL_in _) ?_).mono ?_
         (rw [shaL_len]; omega)
         rintro e0 w2 ⟨rfl, u2⟩
         rw [HX.out]
         have cd2 := u2.cell cc2
         have HU2 := Lib.hid u2
         clear u2)
      | (go_at_call 35
         refine (wakes_ w2).mono ?_
         rintro e0 w3 ⟨rfl, u3⟩
         have HU3 := Lib.hid u3
         clear u3))
  all_goals
    have HF := Lib.hid (HU.out.trans ((Up.drew W).trans ((Up.bytes W.drew 5 T).trans (HU1.out.trans (HU2.out.trans HU3.out)))))
    go_wp2
    go_ret
    exact ⟨rfl, HF.out⟩

set_option maxRecDepth 100000 in
set_option maxHeartbeats 8000000 in
theorem known_2 (n : Int) (w : World) (hk : (IntKind.u64.wrap n).tmod 4 = 2) : Calls Try.prog 8 #[.int .i64 n] w (Ret (.bool true) w) := by
  go_enter Try.func8, Try.ntmps8
  go_wp2_with fail
  generalize hW : (World.alloc _ _) = W
  have c1 : W.cell? ⟨w.heap.size, 2, none⟩ = some (.string tx2) := by
    rw [← hW]; exact two_cell0 w _ _ _ _ _ _ rfl
  have c2 : W.cell? ⟨w.heap.size + 1, 2, none⟩ = some (.string sm2) := by
    rw [← hW]; exact two_cell1 w _ _ _ _ _ _ rfl
  have HU := Lib.hid (show Up w W by rw [← hW]; exact (Up.alloc _ _).trans (Up.alloc _ _))
  have HX := Lib.hid (tx2_hex)
  have HL := Lib.hid (tx2_len)
  clear hW
  generalize tx2 = T at *
  generalize sm2 = S at *
  have hcv := fun W' => conv_bytes W' T
  have cb1 := (Up.bytes W.drew 5 T).cell (a := ⟨w.heap.size, 2, none⟩) c1
  have cb2 := (Up.bytes W.drew 5 T).cell (a := ⟨w.heap.size + 1, 2, none⟩) c2
  have hcv2 := hcv W.drew
  go_region_with
    (first
      | (go_at_call 28
         refine (sum_ _ (strB T) _ (Rd.bytes W.drew 5 T ?_) (strB_in T) ?_).mono ?_
         (rw [HL.out]; omega)
         (rw [strB_len, HL.out]; omega)
         rintro e0 w1 ⟨v1, rfl, o1, u1⟩
         have cc1 := u1.cell cb1
         have cc2 := u1.cell cb2
         have HO1 := Lib.hid o1
         have HU1 := Lib.hid u1
         clear o1 u1)
      | (go_at_call 31
         refine (hex_ v1 _ w1 HO1.out.rd (shaL_in _) ?_).mono ?_
         (rw [shaL_len]; omega)
         rintro e0 w2 ⟨rfl, u2⟩
         rw [HX.out]
         have cd2 := u2.cell cc2
         have HU2 := Lib.hid u2
         clear u2)
      | (go_at_call 35
         refine (wakes_ w2).mono ?_
         rintro e0 w3 ⟨rfl, u3⟩
         have HU3 := Lib.hid u3
         clear u3))
  all_goals
    have HF := Lib.hid (HU.out.trans ((Up.drew W).trans ((Up.bytes W.drew 5 T).trans (HU1.out.trans (HU2.out.trans HU3.out)))))
    go_wp2
    go_ret
    exact ⟨rfl, HF.out⟩

set_option maxRecDepth 100000 in
set_option maxHeartbeats 8000000 in
theorem known_3 (n : Int) (w : World) (hk : (IntKind.u64.wrap n).tmod 4 = 3) : Calls Try.prog 8 #[.int .i64 n] w (Ret (.bool true) w) := by
  go_enter Try.func8, Try.ntmps8
  go_wp2_with fail
  generalize hW : (World.alloc _ _) = W
  have c1 : W.cell? ⟨w.heap.size, 3, none⟩ = some (.string tx3) := by
    rw [← hW]; exact two_cell0 w _ _ _ _ _ _ rfl
  have c2 : W.cell? ⟨w.heap.size + 1, 3, none⟩ = some (.string sm3) := by
    rw [← hW]; exact two_cell1 w _ _ _ _ _ _ rfl
  have HU := Lib.hid (show Up w W by rw [← hW]; exact (Up.alloc _ _).trans (Up.alloc _ _))
  have HX := Lib.hid (tx3_hex)
  have HL := Lib.hid (tx3_len)
  clear hW
  generalize tx3 = T at *
  generalize sm3 = S at *
  have hcv := fun W' => conv_bytes W' T
  have cb1 := (Up.bytes W.drew 5 T).cell (a := ⟨w.heap.size, 3, none⟩) c1
  have cb2 := (Up.bytes W.drew 5 T).cell (a := ⟨w.heap.size + 1, 3, none⟩) c2
  have hcv2 := hcv W.drew
  go_region_with
    (first
      | (go_at_call 28
         refine (sum_ _ (strB T) _ (Rd.bytes W.drew 5 T ?_) (strB_in T) ?_).mono ?_
         (rw [HL.out]; omega)
         (rw [strB_len, HL.out]; omega)
         rintro e0 w1 ⟨v1, rfl, o1, u1⟩
         have cc1 := u1.cell cb1
         have cc2 := u1.cell cb2
         have HO1 := Lib.hid o1
         have HU1 := Lib.hid u1
         clear o1 u1)
      | (go_at_call 31
         refine (hex_ v1 _ w1 HO1.out.rd (shaL_in _) ?_).mono ?_
         (rw [shaL_len]; omega)
         rintro e0 w2 ⟨rfl, u2⟩
         rw [HX.out]
         have cd2 := u2.cell cc2
         have HU2 := Lib.hid u2
         clear u2)
      | (go_at_call 35
         refine (wakes_ w2).mono ?_
         rintro e0 w3 ⟨rfl, u3⟩
         have HU3 := Lib.hid u3
         clear u3))
  all_goals
    have HF := Lib.hid (HU.out.trans ((Up.drew W).trans ((Up.bytes W.drew 5 T).trans (HU1.out.trans (HU2.out.trans HU3.out)))))
    go_wp2
    go_ret
    exact ⟨rfl, HF.out⟩

theorem known (n : Int) (w : World) : Calls Try.prog 8 #[.int .i64 n] w (Ret (.bool true) w) := by
  have h0 : (0 : Int) ≤ IntKind.u64.wrap n := by rw [IntKind.wrap_u64]; omega
  have hk : (IntKind.u64.wrap n).tmod 4 = 0 ∨ (IntKind.u64.wrap n).tmod 4 = 1 ∨ (IntKind.u64.wrap n).tmod 4 = 2 ∨ (IntKind.u64.wrap n).tmod 4 = 3 := by
    rw [Int.tmod_eq_emod_of_nonneg h0]; omega
  rcases hk with h | h | h | h
  · exact known_0 n w h
  · exact known_1 n w h
  · exact known_2 n w h
  · exact known_3 n w h

end Go.Proofs.Yteeibpeefhaoiaa
