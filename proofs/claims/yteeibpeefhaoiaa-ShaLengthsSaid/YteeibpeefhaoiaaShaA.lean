/- Words of 32 bits: turned, joined; slices of whole numbers of any kind that are read, laid, appended to. No condition beside the numbers' bounds that each states. -/
import Derived.Test.YteeibpeefhaoiaaRingE
import Derived.Deep.QuietTactic
import Derived.BigQuiet
import Derived.Deep.DeepCutAuto
import Derived.Laws.BitsLemmas
namespace Go.Proofs.Yteeibpeefhaoiaa
open Go.RowKit
set_option linter.unusedVariables false

theorem Up.drewN (w : World) (n : Nat) : Up w (w.drewN n) := by
  have h := Below.refl w.heap.size w
  exact ⟨⟨h.os, h.tape, h.output, h.size, h.block⟩⟩

/-! ### slices of whole numbers -/
/-- A slice reads as a list of numbers of a kind. -/
def Rd (k : IntKind) (w : World) (v : Value) (xs : List Int) : Prop :=
  (xs = [] ∧ ∃ A c, v = .slice A 0 c) ∨ (0 < xs.length ∧ xs.length ≤ 9223372036854775807 ∧ ∃ b off c, v = .slice (some ⟨b, off, none⟩) xs.length c ∧ xs.length ≤ c ∧ ∀ j, j < xs.length → w.cell? ⟨b, off + j, none⟩ = some (.int k (xs.getD j 0)))
theorem Rd.up {k : IntKind} {w w' : World} {v : Value} {xs : List Int} (h : Rd k w v xs) (u : Up w w') : Rd k w' v xs := by
  rcases h with h | ⟨h0, h1, b, off, c, rfl, hcap, hc⟩
  · exact .inl h
  · exact .inr ⟨h0, h1, b, off, c, rfl, hcap, fun j hj => u.cell (hc j hj)⟩
theorem Rd.new (k : IntKind) (w : World) (xs : List Int) (ty : TypeId) (c : Nat) (h0 : 0 < xs.length) (h1 : xs.length ≤ 9223372036854775807) (hcap : xs.length ≤ c) :
    Rd k (w.alloc (.cells (xs.map (Value.int k)).toArray ty)) (.slice (some ⟨w.heap.size, 0, none⟩) xs.length c) xs := by
  refine .inr ⟨h0, h1, _, _, _, rfl, hcap, fun j hj => ?_⟩
  simp [List.getD_eq_getElem?_getD, List.getElem?_eq_getElem hj]

/-- A row of the call's own. -/
def Ow (k : IntKind) (e : TypeId) (w : World) (base : Nat) (v : Value) (xs : List Int) : Prop := w.ownsRow base e 1 v xs.length (xs.map (Value.int k))
section
variable {k : IntKind} {e : TypeId} {w w' : World} {base : Nat} {v : Value} {xs : List Int}
theorem Ow.nil (k : IntKind) (e : TypeId) (w : World) (base : Nat) : Ow k e w base (.slice none 0 0) [] := World.ownsRow_nil _ _ _ _
theorem Ow.alloc (h : Ow k e w base v xs) (o : Obj) : Ow k e (w.alloc o) base v xs := World.ownsRow.alloc h o
theorem Ow.rd (h : Ow k e w base v xs) : Rd k w v xs := by
  obtain ⟨hl, h⟩ := h
  rcases h with ⟨rfl, h0⟩ | ⟨g, cap, cur, rfl, hb, hh, h1, h2, h3, h4⟩
  · obtain rfl : xs = [] := List.eq_nil_of_length_eq_zero h0
    exact .inl ⟨rfl, _, _, rfl⟩
  · rcases Nat.eq_zero_or_pos xs.length with h0 | h0
    · obtain rfl : xs = [] := List.eq_nil_of_length_eq_zero h0
      exact .inl ⟨rfl, _, _, rfl⟩
    · have hw : w.ownsRow base e 1 (.slice (some ⟨g, 0, none⟩) xs.length cap) xs.length (xs.map (Value.int k)) := ⟨hl, .inr ⟨g, cap, cur, rfl, hb, hh, h1, h2, h3, h4⟩⟩
      unfold maxLen at h2
      refine .inr ⟨h0, by omega, g, 0, cap, rfl, h1, fun j hj => ?_⟩
      have := hw.cellAt j (by omega)
      rw [Nat.zero_add, this]
      simp [List.getD_eq_getElem?_getD, List.getElem?_eq_getElem hj]
theorem Ow.up (h : Ow k e w base v xs) (u : Up w w') : Ow k e w' base v xs := by
  refine World.ownsRow.kept (row := none) h ⟨u.out.os, u.out.tape, u.out.output, u.out.size, fun i hi _ => u.out.block i hi⟩ ?_
  cases v.ownBlock <;> simp
theorem Ow.lit (k : IntKind) (e : TypeId) (w : World) (base : Nat) (xs : List Int) (hb : base ≤ w.heap.size) (hl : xs.length ≤ 9223372036854775807) :
    Ow k e (w.alloc (.cells (xs.map (Value.int k)).toArray e)) base (.slice (some ⟨w.heap.size, 0, none⟩) xs.length xs.length) xs := by
  have := World.ownsRow_lit (e := e) (size := 1) (base := base) w (xs.map (Value.int k)).toArray xs.length hb (by unfold maxLen; omega) (by simp)
  unfold Ow
  simpa using this
end

/-- 'append', from whatever is read. -/
theorem append_k {ops : Array Oper} {rest : List Oper} {o : Oper} {a : Act} {Q : Exit → Act → World → Prop} {w0 w : World} (k : IntKind) (t e : TypeId) (bytes : Nat)
    (ht : Try.prog.underlying t = some (.slice e)) (hinfo : (Try.prog.info? e).map (fun i => (i.zero, i.size, i.bytes)) = some (some (.int k 0), 1, bytes)) (hb8 : bytes ≤ 8) (hgd : o.guard = none) (s x : Operand)
    (ho : o.op = .call { callee := .builtin .append, args := #[s, x], argTypes := #[t, t] })
    (base : Nat) (v xv : Value) (xs ys : List Int) (hs : a.eval s = v) (hx : a.eval x = xv) (HO : Ow k e w base v xs) (HX : Rd k w xv ys) (hy : 0 < ys.length)
    (hbytes : xs.length + ys.length ≤ 17592186044416) (hbase : base ≤ w.heap.size) (HU : Up w0 w) (hb : w0.heap.size ≤ base)
    (h : ∀ v' w', Ow k e w' base v' (xs ++ ys) → Up w0 w' → wpList Try.prog ops Q rest (a.put o.dst v') w') : wpList Try.prog ops Q (o :: rest) a w := by
  rcases HX with ⟨rfl, _⟩ | ⟨_, _, b, off, c, rfl, _, hc⟩
  · simp at hy
  obtain ⟨i, hi, hz0, hz1, hz2⟩ := info_parts hinfo
  refine wpList_append_own w hgd s x t ho base e i (.int k 0) 1 bytes ht hi hz0 hz1 hz2 rfl (by decide) v xs.length (xs.map (Value.int k)) hs HO ⟨b, off, none⟩ ys.length c (ys.map (Value.int k)) hx
    (by simp) ?_ (by intro u hu; obtain ⟨y, _, rfl⟩ := List.mem_map.1 hu; rfl) (by unfold maxLen; omega) (Nat.le_trans (Nat.mul_le_mul_left _ hb8) (by omega)) hbase ?_
  · intro j u hj
    rw [List.getElem?_map] at hj
    obtain ⟨y, hy1, rfl⟩ := Option.map_eq_some_iff.1 hj
    obtain ⟨hj1, hj2⟩ := List.getElem?_eq_some_iff.1 hy1
    have := hc j hj1
    rw [List.getD_eq_getElem?_getD, hy1] at this
    unfold Addr.add
    split
    · rename_i e; subst e; simpa using this
    · simpa using this
  · intro v' w' hown hg _
    refine h v' w' ?_ ⟨HU.out.grown hg (by have := HU.out.size; omega) (fun k hk => ?_)⟩
    · unfold Ow
      rw [List.length_append, List.map_append]
      exact hown
    · have := (World.ownsRow.lt HO k hk).1
      omega

theorem infoB : (Try.prog.info? 5).map (fun i => (i.zero, i.size, i.bytes)) = some (some (.int .u8 0), 1, 1) := by kernel_rfl
theorem infoW : (Try.prog.info? 52).map (fun i => (i.zero, i.size, i.bytes)) = some (some (.int .u32 0), 1, 4) := by kernel_rfl
theorem infoD : (Try.prog.info? 60).map (fun i => (i.zero, i.size, i.bytes)) = some (some (.int .u64 0), 1, 8) := by kernel_rfl

/-! ### words -/
def U32 (x : Int) : Prop := 0 ≤ x ∧ x < 4294967296
/-- A word turned right. -/
def rot (n : Nat) (x : Int) : Int := bits .or .u32 (x / 2 ^ n) (x * 2 ^ (32 - n) % 4294967296)

theorem bits_or_comm (k : IntKind) (x y : Int) : bits .or k x y = bits .or k y x := by
  unfold bits
  simp only []
  rw [BitVec.or_comm]

theorem mask31 {n : Int} (h0 : 0 < n) (h1 : n < 32) : bits .and .u64 (IntKind.u64.wrap (-n)) 31 = 32 - n := by
  have : ∀ m : Fin 31, bits .and .u64 (IntKind.u64.wrap (-((m.val : Int) + 1))) 31 = 32 - ((m.val : Int) + 1) := by decide
  have k := this ⟨(n - 1).toNat, by omega⟩
  simp only [] at k
  rw [show (((n - 1).toNat : Nat) : Int) + 1 = n by omega] at k
  exact k

theorem bits_u32 (op : BinOp) (x y : Int) : U32 (bits op .u32 x y) := by
  unfold bits U32
  rw [IntKind.wrap_u32]
  omega

theorem rot_in (n : Nat) (x : Int) : U32 (rot n x) := bits_u32 _ _ _

theorem turned_ (x n : Int) (w : World) (hx : U32 x) (h0 : 0 < n) (h1 : n < 32) : Calls Try.prog 51 #[.int .u32 x, .int .i64 n] w (Ret (.int .u32 (rot n.toNat x)) w) := by
  have e : rot n.toNat x = bits .or .u32 (x / 2 ^ n.toNat) (x * 2 ^ (32 - n).toNat % 4294967296) := by
    unfold rot; rw [show 32 - n.toNat = (32 - n).toNat by omega]
  rw [e]
  obtain ⟨hx0, hx1⟩ := hx
  have h0' : 0 ≤ n := by omega
  have h2' : 0 ≤ 32 - n := by omega
  clear e
  go_enter Try.func51, Try.ntmps51
  go_wp2_with fail
  go_quiet (fail)
  go_wp2
  go_ret
  exact ⟨rfl, Up.drewN _ _⟩

theorem rotl_ (x n : Int) (w : World) (hx : U32 x) (h0 : 0 < n) (h1 : n < 32) : Calls Try.prog 61 #[.int .u32 x, .int .i64 (-n)] w fun e w' => e = .returned (.int .u32 (rot n.toNat x)) ∧ w' = w := by
  have e : rot n.toNat x = bits .or .u32 (x * 2 ^ (32 - n).toNat % 4294967296) (x / 2 ^ (32 - (32 - n)).toNat) := by
    unfold rot; rw [show 32 - n.toNat = (32 - n).toNat by omega, bits_or_comm, show (32 - (32 - n)).toNat = n.toNat by omega]
  rw [e]
  obtain ⟨hx0, hx1⟩ := hx
  obtain ⟨m, hm⟩ : ∃ m, 32 - n = m := ⟨_, rfl⟩
  have hk := mask31 h0 h1
  rw [hm] at hk ⊢
  have HK := Lib.hid hk
  have h2' : 0 ≤ m := by omega
  have h3' : m ≤ 32 := by omega
  have h4' : 0 ≤ 32 - m := by omega
  clear e hk hm
  go_enter Try.func61, Try.ntmps61
  go_upto_region 2 with fail
  rw [HK.out]
  go_wp2
  go_ret
  exact ⟨rfl, rfl⟩

theorem right_ (x n : Int) (w : World) (hx : U32 x) (h0 : 0 < n) (h1 : n < 32) : Calls Try.prog 58 #[.int .u32 x, .int .i64 n] w fun e w' => e = .returned (.int .u32 (rot n.toNat x)) ∧ w' = w := by
  have HX := Lib.hid hx
  clear hx
  go_enter Try.func58, Try.ntmps58
  go_wp2_with fail
  refine (rotl_ _ _ _ HX.out h0 h1).mono ?_
  rintro e w1 ⟨rfl, rfl⟩
  go_wp2
  go_ret
  exact ⟨rfl, rfl⟩

end Go.Proofs.Yteeibpeefhaoiaa
