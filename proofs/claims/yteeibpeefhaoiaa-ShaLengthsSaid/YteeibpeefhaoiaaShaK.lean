/- wakes: abc's sum and n0's first bits. -/
import Derived.Test.YteeibpeefhaoiaaShaI
import Derived.Lib.SmallJoins
namespace Go.Proofs.Yteeibpeefhaoiaa
open Go.RowKit
set_option linter.unusedVariables false

theorem abc_hex : strOfNums (hexL (shaL [97, 98, 99])) = (⟨#[98, 97, 55, 56, 49, 54, 98, 102, 56, 102, 48, 49, 99, 102, 101, 97, 52, 49, 52, 49, 52, 48, 100, 101, 53, 100, 97, 101, 50, 50, 50, 51, 98, 48, 48, 51, 54, 49, 97, 51, 57, 54, 49, 55, 55, 97, 57, 99, 98, 52, 49, 48, 102, 102, 54, 49, 102, 50, 48, 48, 49, 53, 97, 100]⟩ : ByteArray) := by decide +kernel
theorem n0_head : headL [110, 48] = 2342812313538366385 := by decide +kernel

theorem Rd.mark (k : IntKind) (w : World) (xs : List Int) (ty : TypeId) (fr : Nat × Nat) (c : Nat) (h0 : 0 < xs.length) (h1 : xs.length ≤ 9223372036854775807) (hcap : xs.length ≤ c) :
    Rd k (w.alloc (.cells (xs.map (Value.int k)).toArray ty fr)) (.slice (some ⟨w.heap.size, 0, none⟩) xs.length c) xs := by
  refine .inr ⟨h0, h1, _, 0, c, rfl, hcap, fun j hj => ?_⟩
  rw [Nat.zero_add, World.cell?_alloc_mark]
  simp [List.getD_eq_getElem?_getD, List.getElem?_eq_getElem hj]

set_option maxRecDepth 100000 in
set_option maxHeartbeats 8000000 in
theorem wakes_ (w : World) : Calls Try.prog 35 #[] w (Ret (.bool true) w) := by
  have hcv : (convert 38 38 (.slice (some ⟨w.heap.size, 0, none⟩) 3 3)).run Try.prog (w.alloc (.cells #[.int .u8 97, .int .u8 98, .int .u8 99] 5)) = .ok (.slice (some ⟨w.heap.size, 0, none⟩) 3 3) (w.alloc (.cells #[.int .u8 97, .int .u8 98, .int .u8 99] 5 (3, 4))) :=
    Lib.run_convert_bytes_const w 38 5 _ 3 3 Try.underlying38 Try.underlying5
  go_enter Try.func35, Try.ntmps35
  go_wp2_with fail
  refine (sum_ _ [97, 98, 99] _ (Rd.mark .u8 w [97, 98, 99] 5 (3, 4) 3 (by simp) (by simp) (by simp)) (by intro x hx; simp at hx; omega) (by simp)).mono ?_
  rintro e0 w1 ⟨v1, rfl, o1, u1⟩
  have HU1 := Lib.hid ((Up.alloc w (.cells #[.int .u8 97, .int .u8 98, .int .u8 99] 5 (3, 4))).trans u1)
  have HO1 := Lib.hid o1
  clear o1 u1 hcv
  go_wp2_with fail
  refine (hex_ v1 _ w1 HO1.out.rd (shaL_in _) (by rw [shaL_len]; omega)).mono ?_
  rintro e0 w2 ⟨rfl, u2⟩
  have HU2 := Lib.hid (HU1.out.trans u2)
  rw [abc_hex]
  clear u2 HU1 HO1
  have hcv : ∀ w2 : World, (convert 38 38 (.slice (some ⟨w2.heap.size, 0, none⟩) 2 2)).run Try.prog (w2.alloc (.cells #[.int .u8 110, .int .u8 48] 5)) = .ok (.slice (some ⟨w2.heap.size, 0, none⟩) 2 2) (w2.alloc (.cells #[.int .u8 110, .int .u8 48] 5 (2, 3))) :=
    fun w2 => Lib.run_convert_bytes_const w2 38 5 _ 2 2 Try.underlying38 Try.underlying5
  go_wp2_with fail
  refine (head_ _ [110, 48] _ (Rd.mark .u8 w2 [110, 48] 5 (2, 3) 2 (by simp) (by simp) (by simp)) (by intro x hx; simp at hx; omega) (by simp)).mono ?_
  rintro e0 w3 ⟨rfl, u3⟩
  rw [n0_head]
  have HU3 := Lib.hid (HU2.out.trans ((Up.alloc w2 _).trans u3))
  clear u3 HU2 hcv
  go_wp2
  go_ret
  exact ⟨rfl, HU3.out⟩

end Go.Proofs.Yteeibpeefhaoiaa
