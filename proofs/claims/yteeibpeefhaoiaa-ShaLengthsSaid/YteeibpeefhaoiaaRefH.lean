/- An append that leaves the elder row readable, at a step of a region that draws; a turned word. No condition beside the numbers' bounds that each states. -/
import Derived.Test.YteeibpeefhaoiaaShaE
import Derived.Deep.AppendLies
namespace Go.Proofs.Yteeibpeefhaoiaa
open Go.RowKit
set_option linter.unusedVariables false

theorem turnedq_ (x n : Int) (w : World) (hx : U32 x) (h0 : 0 < n) (h1 : n < 32) : Calls Try.prog 51 #[.int .u32 x, .int .i64 n] w fun e w' => e = .returned (.int .u32 (rot n.toNat x)) ∧ ∃ m, w' = w.drewN m := by
  have e : rot n.toNat x = bits .or .u32 (x / 2 ^ n.toNat) (x * 2 ^ (32 - n).toNat % 4294967296) := by
    unfold rot; rw [show 32 - n.toNat = (32 - n).toNat by omega]
  rw [e]
  obtain ⟨hx0, hx1⟩ := hx
  have h0' : 0 ≤ n := by omega
  have h2' : 0 ≤ 32 - n := by omega
  clear e
  go_enter Try.func51, Try.ntmps51
  go_wp2_with fail
  go_quiet (fail)
  go_wp2
  go_ret
  exact ⟨rfl, _, rfl⟩

theorem hold2 {W w w1 : World} {a b : Addr} {x y : Value} (u : Up w w1) (h : Up W w ∧ w.cell? a = some x ∧ w.cell? b = some y) : Up W w1 ∧ w1.cell? a = some x ∧ w1.cell? b = some y :=
  ⟨h.1.trans u, u.cell h.2.1, u.cell h.2.2⟩

theorem run_append_keep (k : IntKind) (t ty e : TypeId) (bytes : Nat) (w : World)
    (ht : Try.prog.underlying t = some (.slice e)) (hinfo : (Try.prog.info? e).map (fun i => (i.zero, i.size, i.bytes)) = some (some (.int k 0), 1, bytes)) (hb8 : bytes ≤ 8)
    (base g n cap : Nat) (xv : Value) (xs ys : List Int) (HO : Ow k e w base (.slice (some ⟨g, 0, none⟩) n cap) xs) (hn : xs.length = n) (HX : Rd k w xv ys) (hy : 0 < ys.length)
    (hbytes : xs.length + ys.length ≤ 17592186044416) (hbase : base ≤ w.heap.size) :
    ∃ v' w', (Builtin.append_ #[t, t] ty #[.slice (some ⟨g, 0, none⟩) n cap, xv]).run Try.prog w = .ok v' w' ∧ Ow k e w' base v' (xs ++ ys) ∧ w.grownBy w' (some g) ∧ ∀ j, j < n → w'.cell? ⟨g, j, none⟩ = some (.int k (xs.getD j 0)) := by
  rcases HX with ⟨rfl, _⟩ | ⟨_, _, b, off, c, rfl, _, hc⟩
  · simp at hy
  obtain ⟨i, hi, hz0, hz1, hz2⟩ := info_parts hinfo
  have hown : w.ownsRow base e 1 (.slice (some ⟨g, 0, none⟩) n cap) n (xs.map (Value.int k)) := by have h := HO; unfold Ow at h; rwa [hn] at h
  have hl : (ys.map (Value.int k)).length = ys.length * 1 := by simp
  have hnews : ∀ j u, (ys.map (Value.int k))[j]? = some u → w.cell? ((⟨b, off, none⟩ : Addr).add j) = some u := by
    intro j u hj
    rw [List.getElem?_map] at hj
    obtain ⟨y, hy1, rfl⟩ := Option.map_eq_some_iff.1 hj
    obtain ⟨hj1, hj2⟩ := List.getElem?_eq_some_iff.1 hy1
    have := hc j hj1
    rw [List.getD_eq_getElem?_getD, hy1] at this
    unfold Addr.add
    split
    · rename_i e; subst e; simpa using this
    · simpa using this
  have h1 : ∀ u ∈ ys.map (Value.int k), u.oneCell' = true := by intro u hu; obtain ⟨y, _, rfl⟩ := List.mem_map.1 hu; rfl
  have hb2 : (n + ys.length) * bytes ≤ 140737488355328 := Nat.le_trans (Nat.mul_le_mul_left _ hb8) (by omega)
  obtain ⟨v', w', hr, h2, h3, h4, h5⟩ := run_append_own_at w base t ty e i (.int k 0) 1 bytes ht hi hz0 hz1 hz2 rfl (by decide) _ n (xs.map (Value.int k)) hown ⟨b, off, none⟩ ys.length c (ys.map (Value.int k)) hl hnews h1 (by unfold maxLen; omega) hb2 hbase
  refine ⟨v', w', hr, ?_, h3, ?_⟩
  · unfold Ow; rw [List.length_append, List.map_append, hn]; exact h2
  · intro j hj
    have hgl : g < w.heap.size := by
      rcases hown.2 with ⟨he, _⟩ | ⟨g', cap', cur, he, _, hg, _⟩
      · cases he
      · injection he with e1 e2 e3
        injection e1 with e1
        injection e1 with e1 _ _
        subst e1
        exact (Array.getElem?_eq_some_iff.1 hg).1
    have hold := HO.cellAt' hn j hj
    obtain ⟨g', cap', he', hb', hlt'⟩ := h2.form (by omega)
    subst he'
    rcases h5 with h5 | h5
    · have : g' = g := by simpa [Value.ownBlock] using h5
      subst this
      rw [World.ownsRow.cellAt h2 j (by omega)]
      rw [List.getElem?_append_left (by simp; omega)]
      simp [List.getD_eq_getElem?_getD, List.getElem?_eq_getElem (show j < xs.length by omega)]
    · have hgs : g' = w.heap.size := by simpa [Value.ownBlock] using h5
      by_cases hroom : n + ys.length ≤ cap
      · rcases hown.2 with ⟨he, _⟩ | ⟨g2, cap2, cur, he, _, hg, hnc, hcm, hcs, _⟩
        · cases he
        · injection he with e1 e2 e3
          injection e1 with e1
          injection e1 with e1 _ _
          subst e1 e3
          have hrr := run_append_room w t ty e i ht hi g n cap cur hg ⟨b, off, none⟩ ys.length c (ys.map (Value.int k)) (by rw [hl, hz1]) hnews h1 hroom (by rw [hz1, hl, hcs]; omega)
          rw [hrr] at hr
          injection hr with e1 e2
          injection e1 with e1
          injection e1 with e1
          injection e1 with e1 _ _
          omega
      · have holds : ∀ j u, (xs.map (Value.int k))[j]? = some u → w.cell? ((⟨g, 0, none⟩ : Addr).add j) = some u := hown.cells (g := g) rfl
        have hrr := run_append_grow w t ty e i (.int k 0) ht hi hz0 ⟨g, 0, none⟩ n cap (xs.map (Value.int k)) (by rw [hz1]; simp [hn]) holds ⟨b, off, none⟩ ys.length c (ys.map (Value.int k)) (by rw [hl, hz1]) hnews (by omega) (by omega) (growslice_fits (by omega) (by rw [hz2]; exact hb2))
        rw [hrr] at hr
        injection hr with e1 e2
        rw [← e2]
        exact ((Up.drew w).trans (Up.alloc _ _)).cell hold

theorem step_append_keep {ops : Array Oper} {o : Oper} {a : Act} {K : Act → World → Prop} {Q : Exit → Act → World → Prop} {E : Prop} {w0 w : World} (k : IntKind) (t e : TypeId) (bytes : Nat)
    (ht : Try.prog.underlying t = some (.slice e)) (hinfo : (Try.prog.info? e).map (fun i => (i.zero, i.size, i.bytes)) = some (some (.int k 0), 1, bytes)) (hb8 : bytes ≤ 8) (hgd : o.guard = none) (s x : Operand)
    (ho : o.op = .call { callee := .builtin .append, args := #[s, x], argTypes := #[t, t] })
    (base g n cap : Nat) (xv : Value) (xs ys : List Int) (hs : a.eval s = .slice (some ⟨g, 0, none⟩) n cap) (hx : a.eval x = xv) (HO : Ow k e w base (.slice (some ⟨g, 0, none⟩) n cap) xs) (hn : xs.length = n) (HX : Rd k w xv ys) (hy : 0 < ys.length)
    (hbytes : xs.length + ys.length ≤ 17592186044416) (hbase : base ≤ w.heap.size) (HU : Up w0 w) (hb : w0.heap.size ≤ base)
    (h : ∀ v' w', Ow k e w' base v' (xs ++ ys) → Up w0 w' → (∀ j, j < n → w'.cell? ⟨g, j, none⟩ = some (.int k (xs.getD j 0))) → K (a.put o.dst v') w') :
    if Region.wanted o (yielded ops a.tmps) = true then Oper.wp Try.prog o a w K Q else E := by
  have hw : Region.wanted o (yielded ops a.tmps) = true := by simp [Region.wanted, hgd]
  rw [if_pos hw]
  obtain ⟨v', w', hr, h1, h2, h3⟩ := run_append_keep k t o.type e bytes w ht hinfo hb8 base g n cap xv xs ys HO hn HX hy hbytes hbase
  unfold Oper.wp execOp
  simp only [ho, resolve, invoke, builtin, Sem.run_bind, Sem.run_pure, Result.andThen_ok, List.map_toArray, List.map_cons, List.map_nil, hs, hx, hr]
  refine h v' w' h1 ⟨HU.out.grown h2 (by have := HU.out.size; omega) (fun q hq => ?_)⟩ h3
  have := (World.ownsRow.lt HO q (by simpa [Value.ownBlock] using hq)).1
  omega

end Go.Proofs.Yteeibpeefhaoiaa
