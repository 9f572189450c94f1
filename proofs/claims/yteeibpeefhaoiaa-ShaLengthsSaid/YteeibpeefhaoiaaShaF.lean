/- SHA-256: slices.Chunk at 64 bytes (a range over a function). -/
import Derived.RangeFuncNested
import Derived.RangeFuncBound
import Derived.RangeFuncCalls
import Derived.RangeFuncBox
import Derived.RangeFuncLeaves
import Derived.Shelf.Abstract
import Derived.Shelf.RegionOpen
import Derived.WalkKit
import Derived.OwnWalkIn
import Derived.TacticsInMore
import Derived.LoopNIn
import Derived.LoopIn
import Derived.Test.YteeibpeefhaoiaaShaE
namespace Go.Proofs.Yteeibpeefhaoiaa
open Go.RowKit Go.Shelf
set_option linter.unusedVariables false
attribute [local go_sem] Oper.semAt_some

/-- The chunk k of a row of bytes that begins its block. -/
def chk (g : Nat) (k : Nat) : Value := .slice (some ⟨g, 64 * k, none⟩) 64 64

/-- All that lies below n₀, but for block q, lies as it lay. -/
structure Bt (n₀ q : Nat) (A B : World) : Prop where mk :: (out : ∀ i, i < n₀ → i ≠ q → B.heap[i]? = A.heap[i]?)
theorem Bt.refl (n₀ q : Nat) (A : World) : Bt n₀ q A A := ⟨fun _ _ _ => rfl⟩
theorem Bt.drew (n₀ q : Nat) (A : World) : Bt n₀ q A A.drew := ⟨fun _ _ _ => rfl⟩
theorem Bt.trans {n₀ q : Nat} {A B C : World} (h : Bt n₀ q A B) (k : Bt n₀ q B C) : Bt n₀ q A C := ⟨fun i h1 h2 => (k.out i h1 h2).trans (h.out i h1 h2)⟩
theorem Bt.cell {n₀ q : Nat} {A B : World} (h : Bt n₀ q A B) {p : Addr} (h1 : p.block < n₀) (h2 : p.block ≠ q) : B.cell? p = A.cell? p := by
  unfold World.cell?
  rw [h.out _ h1 h2]
theorem Bt.of_below {n₀ q m : Nat} {A B : World} (h : Below m A B) (hm : n₀ ≤ m) : Bt n₀ q A B := ⟨fun i h1 _ => h.block i (by omega)⟩

set_option maxRecDepth 100000 in
set_option maxHeartbeats 4000000 in
theorem chunk1_in (F : Fence) (n : Nat) (h54 : F.fn 54) (hro : F.round = none) (hn : 1 ≤ n) (l Bs Bn n₀ q g m cap : Nat) (hm : m ≤ 17179869185) (hcap : 64 * m ≤ cap) (hBs0 : Bs < n₀) (hBn0 : Bn < n₀) (hBsq : Bs ≠ q) (hBnq : Bn ≠ q) (J Jx : List Nat → World → Prop) (B : Nat) (hJ : AbidesFrom B J)
    (hY : ∀ pre x W, J pre W → pre.length < m → x < m → YieldAt F (n - 1) Try.prog l #[chk g x] W fun e W' =>
      (e = .returned (.bool true) ∧ J (pre ++ [x]) W' ∧ Bt n₀ q W W') ∨ (e = .returned (.bool false) ∧ Jx (pre ++ [x]) W'))
    (W : World) (hBs : W.cell? ⟨Bs, 0, none⟩ = some (.slice (some ⟨g, 0, none⟩) (64 * m) cap)) (hBn : W.cell? ⟨Bn, 0, none⟩ = some (.int .i64 64)) (h0 : J [] W) :
    CallsIn F n Try.prog 54 #[.func (.yield l) #[] #[], .pointer (some ⟨Bs, 0, none⟩), .pointer (some ⟨Bn, 0, none⟩)] W fun e W' => (∃ v, e = .returned v) ∧
      (J (List.range m) W' ∨ (∃ pre, Jx pre W')) := by
  refine callsIn_of_wp Try.func54 rfl h54 ?_ hro
  simp only [Try.ntmps54, List.size_toArray, List.length_cons, List.length_nil, Nat.reduceAdd, Nat.reduceSub, Array.replicate_succ, Array.replicate_zero, List.push_toArray, List.append_toArray, List.nil_append, List.cons_append]
  gi_wp2
  gi_loopw [4] (fun i wr => ∃ k : Nat, k ≤ m ∧ i = .int .i64 (64 * (k : Int)) ∧ J (List.range k) wr ∧ Bt n₀ q W wr)
    (fun i _ => 64 * m - (intOf i).toNat)
  case atStart => exact ⟨0, Nat.zero_le _, rfl, h0, Bt.refl _ _ _⟩
  case round =>
    obtain ⟨k, hk, rfl, hJs, hnx⟩ := hrel
    have hs : wr.cell? ⟨Bs, 0, none⟩ = some (.slice (some ⟨g, 0, none⟩) (64 * m) cap) := (hnx.cell (p := ⟨Bs, 0, none⟩) hBs0 hBsq).trans hBs
    have hnn : wr.cell? ⟨Bn, 0, none⟩ = some (.int .i64 64) := (hnx.cell (p := ⟨Bn, 0, none⟩) hBn0 hBnq).trans hBn
    by_cases hlt : k < m
    · have hJd : ∀ (s : List Nat) (A : World), J s A → J s A.drew := fun s A h => hJ s A _ none h ⟨rfl, rfl, rfl, Nat.le_refl _, fun i hi _ => rfl⟩ (fun r e => by cases e)
      obtain ⟨fn, tmps, assign, body, hy, hR⟩ := hY _ k wr.drew (hJd _ _ hJs) (by simpa using hlt) hlt
      dsimp only [chk] at hy
      have hmix : Try.prog.follows Departure.mixedOrders = true := by kernel_rfl
      gi_wp2
      gi_region_o
      all_goals gi_wp2
      all_goals first
        | (exfalso; omega)
        | (refine hR.mono ?_
           rintro e W3 (⟨rfl, hJ3, hk3⟩ | ⟨rfl, hJx3⟩)
           · have hnn3 : W3.cell? ⟨Bn, 0, none⟩ = some (.int .i64 64) := (hk3.cell (p := ⟨Bn, 0, none⟩) hBn0 hBnq).trans hnn
             gi_wp2
             go_roundw
             case rel => exact ⟨k + 1, by omega, by simp; omega, by rw [List.range_succ]; exact hJ3, hnx.trans (Bt.trans (Bt.drew n₀ q wr) hk3)⟩
             case measure => simp [intOf]; omega
           · gi_wp2
             refine bodyPost_ret (results_none rfl _ _ _) rfl ?_
             exact ⟨⟨_, rfl⟩, .inr ⟨_, hJx3⟩⟩)
    · obtain rfl : k = m := by omega
      gi_wp2
      go_end0
      exact ⟨⟨_, rfl⟩, .inl hJs⟩

/-- slices.Chunk's closure, as the law of a range asks it. -/
theorem chunk_stops (F : Fence) (n : Nat) (h54 : F.fn 54) (hro : F.round = none) (hn : 1 ≤ n) (Bs Bn n₀ q g m cap : Nat) (hm : m ≤ 17179869185) (hcap : 64 * m ≤ cap) (hBs0 : Bs < n₀) (hBn0 : Bn < n₀) (hBsq : Bs ≠ q) (hBnq : Bn ≠ q)
    (w : World) (hBs1 : Bs < w.heap.size) (hBn1 : Bn < w.heap.size)
    (hBs : w.cell? ⟨Bs, 0, none⟩ = some (.slice (some ⟨g, 0, none⟩) (64 * m) cap)) (hBn : w.cell? ⟨Bn, 0, none⟩ = some (.int .i64 64)) :
    SeqStopsK F n Try.prog 54 #[.pointer (some ⟨Bs, 0, none⟩), .pointer (some ⟨Bn, 0, none⟩)] (fun k : Fin m => #[chk g k.1]) (Bt n₀ q) (fun ys => ys.map (·.1) = List.range m) (fun _ => True) m w := fun l J Jx W hW hJ _ hY h0 => by
  refine (chunk1_in F n h54 hro hn l Bs Bn n₀ q g m cap hm hcap hBs0 hBn0 hBsq hBnq (fun pre A => ∃ ys : List (Fin m), ys.map (·.1) = pre ∧ J ys A) (fun pre A => ∃ ys : List (Fin m), Jx ys A) W.heap.size ?_ ?_ W
    ((hW.cell (p := ⟨Bs, 0, none⟩) hBs1).trans hBs) ((hW.cell (p := ⟨Bn, 0, none⟩) hBn1).trans hBn) ⟨[], rfl, h0⟩).mono ?_
  · rintro s A A' row ⟨ys, rfl, hj⟩ hg hr
    exact ⟨ys, rfl, hJ _ _ _ _ hj hg hr⟩
  · rintro pre x A ⟨ys, rfl, hj⟩ hlen hx
    obtain ⟨fn, tmps, assign, body, hy, hR⟩ := hY ys ⟨x, hx⟩ A hj (by simpa using hlen)
    refine ⟨fn, tmps, assign, body, hy, hR.mono ?_⟩
    rintro e W' (⟨he, hj', hk⟩ | ⟨he, hj'⟩)
    · exact .inl ⟨he, ⟨_, by simp, hj'⟩, hk⟩
    · exact .inr ⟨he, _, hj'⟩
  rintro e W' ⟨he, ⟨ys, hys, hj⟩ | ⟨pre, ys, hj⟩⟩
  · exact ⟨he, .inl ⟨_, hys, hj⟩⟩
  · exact ⟨he, .inr ⟨_, trivial, hj⟩⟩

set_option maxHeartbeats 1000000 in
/-- slices.Chunk: both arguments are boxed. -/
theorem chunk_in (F : Fence) (n : Nat) (h46 : F.fn 46) (hro : F.round = none) (a : Option Addr) (len cap : Nat) (w : World) :
    CallsIn F n Try.prog 46 #[.slice a len cap, .int .i64 64] w fun e w' => e = .returned (.func (.func 54) #[] #[.pointer (some ⟨w.heap.size, 0, none⟩), .pointer (some ⟨w.heap.size + 1, 0, none⟩)]) ∧ w' = (w.alloc (.cells #[.slice a len cap] 38)).alloc (.cells #[.int .i64 64] 3) := by
  refine callsIn_of_wp Try.func46 rfl h46 ?_ hro
  simp only [Try.ntmps46, List.size_toArray, List.length_cons, List.length_nil, Nat.reduceAdd, Nat.reduceSub, Array.replicate_succ, Array.replicate_zero, List.push_toArray, List.append_toArray, List.nil_append, List.cons_append]
  gi_wp2
  go_ret
  exact ⟨rfl, rfl⟩

end Go.Proofs.Yteeibpeefhaoiaa
