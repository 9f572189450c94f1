/- Arrays of words in memory; SHA-256's words as plain functions. No condition. -/
import Derived.Test.YteeibpeefhaoiaaShaA
import Derived.Laws.Rows
import Derived.Laws.Tables
namespace Go.Proofs.Yteeibpeefhaoiaa
open Go.RowKit
set_option linter.unusedVariables false

/-- A block holds an array of words. -/
def Arr (t : TypeId) (w : World) (g : Nat) (xs : List Int) : Prop := w.heap[g]? = some (.cells (xs.map (Value.int .u32)).toArray t (0, 0))
def V (xs : List Int) : Value := .agg (xs.map (Value.int .u32)).toArray
section
variable {t t' : TypeId} {w w' w0 : World} {g g' : Nat} {xs ys : List Int}
theorem Arr.lt (h : Arr t w g xs) : g < w.heap.size := (Array.getElem?_eq_some_iff.1 h).1
theorem Arr.cell (h : Arr t w g xs) (j : Nat) (hj : j < xs.length) : w.cell? ⟨g, j, none⟩ = some (.int .u32 (xs.getD j 0)) := by
  rw [cell_of_row w g j _ t (0, 0) h]
  simp [List.getD_eq_getElem?_getD, List.getElem?_eq_getElem hj]
theorem Arr.frozen (h : Arr t w g xs) (j : Nat) : w.frozen? ⟨g, j, none⟩ = false := by
  have h' : w.heap[g]? = some (.cells (xs.map (Value.int .u32)).toArray t (0, 0)) := h
  simp [World.frozen?, h']
theorem Arr.up (h : Arr t w g xs) (u : Up w w') : Arr t w' g xs := (u.out.block g h.lt).trans h
theorem Arr.new (t : TypeId) (w : World) (xs : List Int) : Arr t (w.alloc (.cells (xs.map (Value.int .u32)).toArray t)) w.heap.size xs := by
  unfold Arr World.alloc; simp
theorem Arr.setRow (h : Arr t w g xs) (ys : List Int) : Arr t (w.setRow g (ys.map (Value.int .u32)).toArray) g ys := by
  have h' : w.heap[g]? = some (.cells (xs.map (Value.int .u32)).toArray t (0, 0)) := h
  unfold Arr World.setRow
  simp [Array.getElem?_modify, h']
theorem Arr.setRow_other (h : Arr t w g xs) (cs : Array Value) (hne : g' ≠ g) : Arr t (w.setRow g' cs) g xs := by
  have h' : w.heap[g]? = some (.cells (xs.map (Value.int .u32)).toArray t (0, 0)) := h
  unfold Arr World.setRow
  simp [Array.getElem?_modify, h', hne]
theorem Up.setRow (h : Up w0 w) (g : Nat) (cs : Array Value) (hg : w0.heap.size ≤ g) : Up w0 (w.setRow g cs) := by
  obtain ⟨⟨a, b, c, d, e⟩⟩ := h
  refine ⟨⟨a, b, c, ?_, fun i hi => ?_⟩⟩
  · unfold World.setRow; simpa using d
  · rw [← e i hi]
    unfold World.setRow
    simp [Array.getElem?_modify, show g ≠ i by omega]
theorem Arr.setCell (h : Arr t w g xs) (j : Nat) (hj : j < xs.length) (y : Int) : Arr t (w.setCell ⟨g, j, none⟩ (.int .u32 y)) g (xs.set j y) := by
  have h' : w.heap[g]? = some (.cells (xs.map (Value.int .u32)).toArray t (0, 0)) := h
  unfold Arr World.setCell
  simp [Array.getElem?_modify, h', List.map_set]
theorem Arr.setCell_other (h : Arr t w g xs) (j : Nat) (v : Value) (hne : g' ≠ g) : Arr t (w.setCell ⟨g', j, none⟩ v) g xs := by
  have h' : w.heap[g]? = some (.cells (xs.map (Value.int .u32)).toArray t (0, 0)) := h
  unfold Arr World.setCell
  simp [Array.getElem?_modify, h', hne]
end

/-! ### SHA-256 -/
def add (x y : Int) : Int := (x + y) % 4294967296
def s0 (x : Int) : Int := bits .xor .u32 (bits .xor .u32 (rot 7 x) (rot 18 x)) (x / 8)
def s1 (x : Int) : Int := bits .xor .u32 (bits .xor .u32 (rot 17 x) (rot 19 x)) (x / 1024)
def b0 (x : Int) : Int := bits .xor .u32 (bits .xor .u32 (rot 2 x) (rot 13 x)) (rot 22 x)
def b1 (x : Int) : Int := bits .xor .u32 (bits .xor .u32 (rot 6 x) (rot 11 x)) (rot 25 x)
def nott (x : Int) : Int := bits .xor .u32 IntKind.u32.max x
def ch (e f g : Int) : Int := bits .xor .u32 (bits .and .u32 e f) (bits .and .u32 (nott e) g)
def mj (a b c : Int) : Int := bits .xor .u32 (bits .xor .u32 (bits .and .u32 a b) (bits .and .u32 a c)) (bits .and .u32 b c)
def t1 (v : List Int) (k w : Int) : Int := (v.getD 7 0 + b1 (v.getD 4 0) + ch (v.getD 4 0) (v.getD 5 0) (v.getD 6 0) + k + w) % 4294967296
def t2 (v : List Int) : Int := (b0 (v.getD 0 0) + mj (v.getD 0 0) (v.getD 1 0) (v.getD 2 0)) % 4294967296
def step (v : List Int) (k w : Int) : List Int :=
  [add (t1 v k w) (t2 v), v.getD 0 0, v.getD 1 0, v.getD 2 0, add (v.getD 3 0) (t1 v k w), v.getD 4 0, v.getD 5 0, v.getD 6 0]
end Go.Proofs.Yteeibpeefhaoiaa
