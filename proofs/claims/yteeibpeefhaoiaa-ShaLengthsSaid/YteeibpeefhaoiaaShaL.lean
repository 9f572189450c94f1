/- Bytes of a string. No condition beside the bound on their number. -/
import Derived.Test.YteeibpeefhaoiaaShaK
import Derived.Lib.ConvBytes
import Derived.Laws.AppendOwn
namespace Go.Proofs.Yteeibpeefhaoiaa
open Go.RowKit
set_option linter.unusedVariables false

/-- A string's bytes as numbers. -/
def strB (s : ByteArray) : List Int := s.data.toList.map fun b => (b.toNat : Int)
theorem strB_len (s : ByteArray) : (strB s).length = s.size := by
  unfold strB
  rw [List.length_map, Array.length_toList]
  rfl
theorem strB_in (s : ByteArray) : AllB (strB s) := by
  intro x hx
  obtain ⟨b, _, rfl⟩ := List.mem_map.1 hx
  have := b.toNat_lt
  omega

theorem Up.bytes (w : World) (e : TypeId) (s : ByteArray) : Up w (Lib.bytesWorld w e s) := by
  refine ⟨⟨?_, ?_, ?_, ?_, fun k hk => Lib.bytesWorld_at_old w e s k hk⟩⟩
  · simp [Lib.bytesWorld, World.freeze, World.alloc, World.drew, -World.alloc_eq, -World.drew_eq]
  · simp [Lib.bytesWorld, World.freeze, World.alloc, World.drew, -World.alloc_eq, -World.drew_eq]
  · simp [Lib.bytesWorld, World.freeze, World.alloc, World.drew, -World.alloc_eq, -World.drew_eq]
  · rw [Lib.bytesWorld_size]; omega

theorem Rd.bytes (w : World) (e : TypeId) (s : ByteArray) (hs : s.size ≤ 9223372036854775807) :
    Rd .u8 (Lib.bytesWorld w e s) (.slice (some ⟨w.heap.size, 0, none⟩) s.size (grownCap w s.size 0 e)) (strB s) := by
  rcases Nat.eq_zero_or_pos s.size with h | h
  · have : strB s = [] := List.eq_nil_of_length_eq_zero (by rw [strB_len, h])
    rw [this, h]
    exact .inl ⟨rfl, _, _, rfl⟩
  · refine .inr ⟨by rw [strB_len]; exact h, by rw [strB_len]; exact hs, w.heap.size, 0, grownCap w s.size 0 e, by rw [strB_len], by rw [strB_len]; exact grownCap_ge _ _ _ _, fun j hj => ?_⟩
    rw [strB_len] at hj
    rw [Nat.zero_add, Lib.bytesWorld_cell w e s j hj]
    have hj' : j < s.data.toList.length := by rw [Array.length_toList]; exact hj
    simp [strB, List.getD_eq_getElem?_getD, List.getElem?_eq_getElem hj']

theorem conv_bytes (W : World) (s : ByteArray) : (convert 9 38 (.string s)).run Try.prog W = .ok (.slice (some ⟨W.heap.size, 0, none⟩) s.size (grownCap W s.size 0 5)) (Lib.bytesWorld W 5 s) :=
  Lib.run_convert_string_bytes W 9 38 5 s Try.underlying9 Try.underlying38 Try.underlying5

end Go.Proofs.Yteeibpeefhaoiaa
