/- Lists of ints that a call lays itself, appended to; whatever came in, opened. No condition. -/
import Derived.Test.YteeibpeefhaoiaaRingGaps
import Derived.Laws.AppendOwn
import Derived.Laws.OwnMore
import Derived.OpenShut
namespace Go.Proofs.Yteeibpeefhaoiaa
open Go.RowKit
set_option linter.unusedVariables false

theorem Ints.nil (w : World) (A : Option Addr) (c : Nat) : Ints w (.slice A 0 c) [] := .inl ⟨rfl, A, c, rfl⟩
theorem Ints.opened {w : World} {x : Addr} {len cap : Nat} {zs : List Int} (hl : len ≤ cap) (hm : cap ≤ maxLen) (hz : zs.length = cap)
    (hc : ∀ i, i < zs.length → w.cell? (x.add i) = some (.int .i64 (zs.getD i 0))) (_ : ∀ n ∈ zs, (Lit.int .i64 n).wf = true) : ∃ xs, Ints w (.slice (some x) len cap) xs := by
  rcases Nat.eq_zero_or_pos len with rfl | h0
  · exact ⟨[], Ints.nil _ _ _⟩
  · obtain ⟨b, off, rfl, h⟩ := ints_at hc (by omega)
    have e : (zs.take len).length = len := by simp; omega
    unfold maxLen at hm
    refine ⟨zs.take len, .inr ⟨by omega, by omega, b, off, cap, by rw [e], fun j hj => ?_⟩⟩
    rw [h j (by omega)]
    simp [List.getD_eq_getElem?_getD, show j < len by omega]

/-- A row of the call's own. -/
def Own (w : World) (base : Nat) (v : Value) (xs : List Int) : Prop := w.ownsRow base 3 1 v xs.length (xs.map (Value.int .i64))
theorem Own.nil (w : World) (base : Nat) : Own w base (.slice none 0 0) [] := World.ownsRow_nil _ _ _ _
theorem Own.alloc {w : World} {base : Nat} {v : Value} {xs : List Int} (h : Own w base v xs) (o : Obj) : Own (w.alloc o) base v xs := World.ownsRow.alloc h o
theorem Own.ints {w : World} {base : Nat} {v : Value} {xs : List Int} (h : Own w base v xs) : Ints w v xs := by
  obtain ⟨hl, h⟩ := h
  rcases h with ⟨rfl, h0⟩ | ⟨g, cap, cur, rfl, hb, hh, h1, h2, h3, h4⟩
  · obtain rfl : xs = [] := List.eq_nil_of_length_eq_zero h0
    exact .inl ⟨rfl, _, _, rfl⟩
  · rcases Nat.eq_zero_or_pos xs.length with h0 | h0
    · obtain rfl : xs = [] := List.eq_nil_of_length_eq_zero h0
      exact .inl ⟨rfl, _, _, rfl⟩
    · have hw : w.ownsRow base 3 1 (.slice (some ⟨g, 0, none⟩) xs.length cap) xs.length (xs.map (Value.int .i64)) := ⟨hl, .inr ⟨g, cap, cur, rfl, hb, hh, h1, h2, h3, h4⟩⟩
      unfold maxLen at h2
      refine .inr ⟨h0, by omega, g, 0, cap, rfl, fun j hj => ?_⟩
      have := hw.cellAt j (by omega)
      rw [Nat.zero_add, this]
      simp [List.getD_eq_getElem?_getD, List.getElem?_eq_getElem hj]
theorem Own.up {w w' : World} {base : Nat} {v : Value} {xs : List Int} (h : Own w base v xs) (u : Up w w') : Own w' base v xs := by
  refine World.ownsRow.kept (row := none) h ⟨u.out.os, u.out.tape, u.out.output, u.out.size, fun i hi _ => u.out.block i hi⟩ ?_
  cases v.ownBlock <;> simp

theorem info3 : (Try.prog.info? 3).map (fun i => (i.zero, i.size, i.bytes)) = some (some (.int .i64 0), 1, 8) := by kernel_rfl

theorem append_ints {ops : Array Oper} {rest : List Oper} {o : Oper} {a : Act} {Q : Exit → Act → World → Prop} {w0 w : World} (hgd : o.guard = none) (s x : Operand)
    (ho : o.op = .call { callee := .builtin .append, args := #[s, x], argTypes := #[22, 22] })
    (base : Nat) (v xv : Value) (xs ys : List Int) (hs : a.eval s = v) (hx : a.eval x = xv) (HO : Own w base v xs) (HX : Ints w xv ys) (hy : 0 < ys.length)
    (hbytes : xs.length + ys.length ≤ 17592186044416) (hbase : base ≤ w.heap.size) (HU : Up w0 w) (hb : w0.heap.size ≤ base)
    (h : ∀ v' w', Own w' base v' (xs ++ ys) → Up w0 w' → wpList Try.prog ops Q rest (a.put o.dst v') w') : wpList Try.prog ops Q (o :: rest) a w := by
  rcases HX with ⟨rfl, _⟩ | ⟨_, _, b, off, c, rfl, hc⟩
  · simp at hy
  obtain ⟨i, hi, hz0, hz1, hz2⟩ := info_parts info3
  refine wpList_append_own w hgd s x 22 ho base 3 i (.int .i64 0) 1 8 Try.underlying22 hi hz0 hz1 hz2 rfl (by decide) v xs.length (xs.map (Value.int .i64)) hs HO ⟨b, off, none⟩ ys.length c (ys.map (Value.int .i64)) hx
    (by simp) ?_ (by intro u hu; obtain ⟨y, _, rfl⟩ := List.mem_map.1 hu; rfl) (by unfold maxLen; omega) (by omega) hbase ?_
  · intro j u hj
    rw [List.getElem?_map] at hj
    obtain ⟨y, hy1, rfl⟩ := Option.map_eq_some_iff.1 hj
    obtain ⟨hj1, hj2⟩ := List.getElem?_eq_some_iff.1 hy1
    have := hc j hj1
    rw [List.getD_eq_getElem?_getD, hy1] at this
    unfold Addr.add
    split
    · rename_i e; subst e; simpa using this
    · simpa using this
  · intro v' w' hown hg _
    refine h v' w' ?_ ⟨HU.out.grown hg (by have := HU.out.size; omega) (fun k hk => ?_)⟩
    · unfold Own
      rw [List.length_append, List.map_append]
      exact hown
    · have := (World.ownsRow.lt HO k hk).1
      omega

end Go.Proofs.Yteeibpeefhaoiaa
