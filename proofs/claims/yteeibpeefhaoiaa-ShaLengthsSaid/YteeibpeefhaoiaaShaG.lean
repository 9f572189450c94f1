/- SHA-256: the sum of bytes (sha.Sum). No condition beside the bound on the bytes' number. -/
import Derived.Test.YteeibpeefhaoiaaShaF
namespace Go.Proofs.Yteeibpeefhaoiaa
open Go.RowKit Go.Shelf
set_option linter.unusedVariables false
attribute [local go_sem] Oper.semAt_some

/-! ### plain -/
def cut64 (ps : List Int) (k : Nat) : List Int := (ps.drop (64 * k)).take 64
def sum1 (h c : List Int) : List Int := List.zipWith add h (run h ktab (wl c 64) 64)
def hs (ps : List Int) (pre : List Nat) : List Int := pre.foldl (fun h k => sum1 h (cut64 ps k)) htab
def outB (h : List Int) (k : Nat) : List Int := ((h.take k).map fun x => gr x 4).flatten
/-- The sum of bytes. -/
def shaL (xs : List Int) : List Int := outB (hs (pad xs) (List.range ((pad xs).length / 64))) 8

def Eight (h : List Int) : Prop := ∃ a0 a1 a2 a3 a4 a5 a6 a7, h = [a0, a1, a2, a3, a4, a5, a6, a7] ∧ AllU [a0, a1, a2, a3, a4, a5, a6, a7]
theorem sum1_eight {h : List Int} (c : List Int) (hh : Eight h) : Eight (sum1 h c) := by
  obtain ⟨a0, a1, a2, a3, a4, a5, a6, a7, rfl, hu⟩ := hh
  obtain ⟨x0, x1, x2, x3, x4, x5, x6, x7, hx, hxu⟩ := run_eight ktab (wl c 64) 64 hu
  unfold sum1
  rw [hx]
  refine ⟨_, _, _, _, _, _, _, _, rfl, ?_⟩
  simp only [AllU, List.mem_cons, List.not_mem_nil, or_false, forall_eq_or_imp, forall_eq]
  exact ⟨add_in _ _, add_in _ _, add_in _ _, add_in _ _, add_in _ _, add_in _ _, add_in _ _, add_in _ _⟩
theorem htab_eight : Eight htab := by
  refine ⟨_, _, _, _, _, _, _, _, rfl, ?_⟩
  simp only [AllU, List.mem_cons, List.not_mem_nil, or_false, forall_eq_or_imp, forall_eq, U32]
  omega
theorem hs_snoc (ps : List Int) (pre : List Nat) (k : Nat) : hs ps (pre ++ [k]) = sum1 (hs ps pre) (cut64 ps k) := by simp [hs]
theorem hs_eight (ps : List Int) (pre : List Nat) : Eight (hs ps pre) := by
  have H : ∀ (pre : List Nat) (h : List Int), Eight h → Eight (pre.foldl (fun h k => sum1 h (cut64 ps k)) h) := by
    intro pre
    induction pre with
    | nil => intro h hh; exact hh
    | cons k pre ih => intro h hh; exact ih _ (sum1_eight _ hh)
  exact H pre htab htab_eight
theorem Eight.len {h : List Int} (hh : Eight h) : h.length = 8 := by obtain ⟨_, _, _, _, _, _, _, _, rfl, _⟩ := hh; rfl
theorem pad_len (xs : List Int) : ∃ m, (pad xs).length = 64 * m ∧ 1 ≤ m ∧ 64 * m ≤ xs.length + 72 := by
  refine ⟨(xs.length + 1 + (119 - xs.length % 64) % 64 + 8) / 64, ?_, ?_, ?_⟩
  · simp only [pad, List.length_append, List.length_replicate, gr_len, List.length_cons, List.length_nil]; omega
  · omega
  · omega
theorem gr_in (n : Int) (m : Nat) : AllB (gr n m) := by
  intro x hx
  simp only [gr, List.mem_map] at hx
  obtain ⟨j, _, rfl⟩ := hx
  omega
theorem pad_in {xs : List Int} (h : AllB xs) : AllB (pad xs) := by
  intro x hx
  simp only [pad, List.mem_append, List.mem_singleton, List.mem_replicate] at hx
  rcases hx with ((hx | rfl) | ⟨_, rfl⟩) | hx
  · exact h x hx
  · omega
  · omega
  · exact gr_in _ _ x hx
theorem cut64_len {ps : List Int} {m : Nat} (h : ps.length = 64 * m) {k : Nat} (hk : k < m) : (cut64 ps k).length = 64 := by
  simp [cut64, h]; omega
theorem cut64_in {ps : List Int} (h : AllB ps) (k : Nat) : AllB (cut64 ps k) := fun x hx => h x (List.mem_of_mem_drop (List.mem_of_mem_take hx))
theorem cut64_getD {ps : List Int} (k j : Nat) (hj : j < 64) : (cut64 ps k).getD j 0 = ps.getD (64 * k + j) 0 := by
  simp [cut64, List.getD_eq_getElem?_getD, hj]
theorem outB_succ (h : List Int) (k : Nat) (hk : k < h.length) : outB h (k + 1) = outB h k ++ gr (h.getD k 0) 4 := by
  unfold outB
  rw [List.take_add_one, List.map_append, List.flatten_append, List.getElem?_eq_getElem hk, List.getD_eq_getElem?_getD, List.getElem?_eq_getElem hk]
  simp
theorem outB_len (h : List Int) : ∀ k, k ≤ h.length → (outB h k).length = 4 * k
  | 0, _ => by simp [outB]
  | k + 1, hk => by rw [outB_succ h k (by omega), List.length_append, outB_len h k (by omega), gr_len]; omega
theorem wl_u {c : List Int} (h : AllB c) : (wl c 64).length = 64 := wl_len c 64
theorem ktab_len : ktab.length = 64 := by decide

/-- sha.turn at a chunk that lies in memory. -/
theorem turn_at (h c : List Int) (b off cp : Nat) (w : World) (hh : Eight h) (hl : c.length = 64) (hB : AllB c) (hcap : 64 ≤ cp) (hc : ∀ j, j < 64 → w.cell? ⟨b, off + j, none⟩ = some (.int .u8 (c.getD j 0))) :
    Calls Try.prog 48 #[V h, .slice (some ⟨b, off, none⟩) 64 cp] w (Ret (V (sum1 h c)) w) := by
  obtain ⟨a0, a1, a2, a3, a4, a5, a6, a7, rfl, hu⟩ := hh
  exact turn_of a0 a1 a2 a3 a4 a5 a6 a7 _ (wl c 64) ktab w (wl_len c 64) ktab_len hu (fun w1 u => words_ c b off cp w1 hl hB hcap (fun j hj => u.cell (hc j hj))) (fun w => table_ w)

theorem Arr.own (t : TypeId) (g : Nat) (f : List Nat → List Int) : _root_.Go.Own (fun pre W => Arr t W g (f pre)) := by
  intro s A B row h hg hr
  unfold Arr at h ⊢
  rw [← h]
  refine hg.block g ?_ ?_
  · exact (Array.getElem?_eq_some_iff.1 h).1
  · rintro rfl
    obtain ⟨o, ho, hn⟩ := hr _ rfl
    rw [h] at ho
    obtain rfl := Option.some.inj ho
    cases hn

theorem Bt.own (n₀ q : Nat) (W0 : World) (hn : n₀ ≤ W0.heap.size) : OwnFrom W0.heap.size (fun (_ : List Nat) W => W0.heap.size ≤ W.heap.size ∧ Bt n₀ q W0 W) := by
  intro s A B row h hg hr
  refine ⟨Nat.le_trans h.1 hg.size, ⟨fun i hi hq => (hg.block i (by omega) ?_).trans (h.2.out i hi hq)⟩⟩
  rintro rfl
  have := (hr i rfl).1
  omega

theorem Up.own {w : World} {B : Nat} (hB : w.heap.size ≤ B) : OwnFrom B (fun (_ : List Nat) W => Up w W) := by
  intro s A B' row h hg hr
  have h1 := h.out
  refine ⟨⟨hg.os.trans h1.os, hg.tape.trans h1.tape, hg.output.trans h1.output, Nat.le_trans h1.size hg.size, fun i hi => (hg.block i (by have := h1.size; omega) ?_).trans (h1.block i hi)⟩⟩
  rintro rfl
  have := (hr i rfl).1
  omega

/-- Eight stores, one behind the other, into the row of an array. -/
def st8 (W : World) (q : Nat) (b0 b1 b2 b3 b4 b5 b6 b7 : Int) : World :=
  (((((((W.setCell ⟨q, 0, none⟩ (.int .u32 b0)).setCell ⟨q, 1, none⟩ (.int .u32 b1)).setCell ⟨q, 2, none⟩ (.int .u32 b2)).setCell ⟨q, 3, none⟩ (.int .u32 b3)).setCell ⟨q, 4, none⟩ (.int .u32 b4)).setCell ⟨q, 5, none⟩ (.int .u32 b5)).setCell ⟨q, 6, none⟩ (.int .u32 b6)).setCell ⟨q, 7, none⟩ (.int .u32 b7)
theorem st8_arr {W : World} {q : Nat} {a0 a1 a2 a3 a4 a5 a6 a7 : Int} (b0 b1 b2 b3 b4 b5 b6 b7 : Int) (h : Arr 53 W q [a0, a1, a2, a3, a4, a5, a6, a7]) : Arr 53 (st8 W q b0 b1 b2 b3 b4 b5 b6 b7) q [b0, b1, b2, b3, b4, b5, b6, b7] :=
  (((((((h.setCell 0 (by simp) b0).setCell 1 (by simp) b1).setCell 2 (by simp) b2).setCell 3 (by simp) b3).setCell 4 (by simp) b4).setCell 5 (by simp) b5).setCell 6 (by simp) b6).setCell 7 (by simp) b7
theorem st8_others (W : World) (q : Nat) (b0 b1 b2 b3 b4 b5 b6 b7 : Int) : KeepsOthers W (st8 W q b0 b1 b2 b3 b4 b5 b6 b7) :=
  (((((((KeepsOthers.setCell _ _ _).trans (KeepsOthers.setCell _ _ _)).trans (KeepsOthers.setCell _ _ _)).trans (KeepsOthers.setCell _ _ _)).trans (KeepsOthers.setCell _ _ _)).trans (KeepsOthers.setCell _ _ _)).trans (KeepsOthers.setCell _ _ _)).trans (KeepsOthers.setCell _ _ _)
theorem st8_up {w W : World} (q : Nat) (b0 b1 b2 b3 b4 b5 b6 b7 : Int) (h : Up w W) (hq : w.heap.size ≤ q) : Up w (st8 W q b0 b1 b2 b3 b4 b5 b6 b7) :=
  (((((((h.setNew _ _ hq).setNew _ _ hq).setNew _ _ hq).setNew _ _ hq).setNew _ _ hq).setNew _ _ hq).setNew _ _ hq).setNew _ _ hq
theorem Bt.set {n₀ q : Nat} {A B : World} (h : Bt n₀ q A B) (j : Nat) (v : Value) : Bt n₀ q A (B.setCell ⟨q, j, none⟩ v) :=
  ⟨fun i hi hq => by
    rw [← h.out i hi hq]
    unfold World.setCell
    simp [Array.getElem?_modify, Ne.symm hq]⟩
theorem st8_bt {n₀ q : Nat} {A W : World} (b0 b1 b2 b3 b4 b5 b6 b7 : Int) (h : Bt n₀ q A W) : Bt n₀ q A (st8 W q b0 b1 b2 b3 b4 b5 b6 b7) :=
  (((((((h.set _ _).set _ _).set _ _).set _ _).set _ _).set _ _).set _ _).set _ _
theorem st8_size (W : World) (q : Nat) (b0 b1 b2 b3 b4 b5 b6 b7 : Int) : W.heap.size ≤ (st8 W q b0 b1 b2 b3 b4 b5 b6 b7).heap.size := (st8_others W q b0 b1 b2 b3 b4 b5 b6 b7).size

theorem Up.trans_put {w W : World} (h : Up w W) (D : Nat) (o' : Obj) (hD : w.heap.size ≤ D) {o : Obj} (hK : W.heap[D]? = some o) : Up w (W.putObj D o') :=
  ⟨h.out.grown (grownBy_putObj' W D o') h.out.size (fun k e => by cases e; exact hD)⟩

set_option maxRecDepth 100000 in
set_option maxHeartbeats 8000000 in
theorem sum_ (v : Value) (xs : List Int) (w : World) (hv : Rd .u8 w v xs) (hB : AllB xs) (hl : xs.length ≤ 1099511627776) : Calls Try.prog 28 #[v] w (RetOw .u8 5 (shaL xs) w) := by
  obtain ⟨m, hm, hm1, hm2⟩ := pad_len xs
  have HP := Lib.hid (pad_in hB)
  have hmx : m ≤ 17179869185 := by omega
  refine (callsIn_wide (n := 3)).1 ?_
  refine callsIn_of_wp_marks Try.func28 rfl trivial ?_ rfl
  simp only [Try.ntmps28, List.size_toArray, List.length_cons, List.length_nil, Nat.reduceAdd, Nat.reduceSub, Array.replicate_succ, Array.replicate_zero, List.push_toArray, List.append_toArray, List.nil_append, List.cons_append]
  gi_wp2_with fail
  refine ⟨trivial, (callsIn_wide.2 (first_ _)).mono ?_⟩
  rintro e0 w1 ⟨rfl, u1⟩
  unfold V htab
  simp only [List.map_cons, List.map_nil]
  gi_wp2_with fail
  refine ⟨trivial, (callsIn_wide.2 (padded_ v xs _ (hv.up (u1.trans (Up.alloc _ _))) hl)).mono ?_⟩
  rintro e0 w2 ⟨v2, rfl, o2, u2⟩
  obtain ⟨g, cap, rfl, hg1, hg2, hcap, hcell⟩ : ∃ g cap, v2 = .slice (some ⟨g, 0, none⟩) (64 * m) cap ∧ w1.heap.size + 1 ≤ g ∧ g < w2.heap.size ∧ 64 * m ≤ cap ∧ ∀ j, j < 64 * m → w2.cell? ⟨g, j, none⟩ = some (.int .u8 ((pad xs).getD j 0)) := by
    have hr := o2.rd
    rcases o2.2 with ⟨_, h0⟩ | ⟨g, cap, cur, rfl, hb, hh, h1, _⟩
    · omega
    · rcases hr with ⟨h0, _⟩ | ⟨_, _, b, off, c, he, _, hc⟩
      · rw [h0] at hm; simp at hm; omega
      · cases he
        rw [hm] at hc h1
        refine ⟨g, cap, by rw [hm], by simpa using hb, (Array.getElem?_eq_some_iff.1 hh).1, h1, fun j hj => by have := hc j hj; rwa [Nat.zero_add] at this⟩
  have HA := Lib.hid ((Arr.new 53 w1 htab).up u2)
  have HU := Lib.hid ((u1.trans (Up.alloc _ _)).trans u2)
  have HC := Lib.hid hcell
  have hq : w1.heap.size < w2.heap.size := by omega
  have hqw : w.heap.size ≤ w1.heap.size := u1.out.size
  clear u1 u2 o2 hcell
  gi_wp2_with fail
  refine ⟨trivial, (chunk_in Fence.wide _ trivial rfl _ _ _ _).mono ?_⟩
  rintro e0 w3 ⟨rfl, rfl⟩
  gi_wp2_with fail
  have bS := Boxed.new w2 38 (.slice (some ⟨g, 0, none⟩) (64 * m) cap)
  have bN := Boxed.new (w2.alloc (.cells #[.slice (some ⟨g, 0, none⟩) (64 * m) cap] 38)) 3 (.int .i64 64)
  rw [World.size_alloc] at bN
  have HA2 := Lib.hid ((HA.out.alloc (.cells #[.slice (some ⟨g, 0, none⟩) (64 * m) cap] 38)).alloc (.cells #[.int .i64 64] 3))
  have HU2 := Lib.hid ((HU.out.trans (Up.alloc _ (.cells #[.slice (some ⟨g, 0, none⟩) (64 * m) cap] 38))).trans (Up.alloc _ (.cells #[.int .i64 64] 3)))
  have cS := (bS.alloc (.cells #[.int .i64 64] 3)).cell
  have cN := bN.cell
  have HC2 := Lib.hid (fun j hj => (((Up.alloc w2 (.cells #[.slice (some ⟨g, 0, none⟩) (64 * m) cap] 38)).trans (Up.alloc _ (.cells #[.int .i64 64] 3))).cell (HC.out j hj)))
  have hsz : ((w2.alloc (.cells #[.slice (some ⟨g, 0, none⟩) (64 * m) cap] 38)).alloc (.cells #[.int .i64 64] 3)).heap.size = w2.heap.size + 2 := by simp
  generalize hW0 : (w2.alloc (.cells #[.slice (some ⟨g, 0, none⟩) (64 * m) cap] 38)).alloc (.cells #[.int .i64 64] 3) = W0 at *
  rename_i K1 hK1
  refine wpIn_rangeFunc_ownF (α := Fin m) rfl (by omega) (gf := 54) (lb := #[.pointer (some ⟨w2.heap.size, 0, none⟩), .pointer (some ⟨w2.heap.size + 1, 0, none⟩)]) rfl trivial (enters_of Try.func54 (by kernel_rfl) rfl)
    (chunk_stops Fence.wide _ trivial rfl (by omega) w2.heap.size (w2.heap.size + 1) W0.heap.size w1.heap.size g m cap hmx hcap (by omega) (by omega) (by omega) (by omega) W0 (by omega) (by omega) cS cN)
    Bt.trans (fun W l o o' hl ho h1 h2 => ⟨fun i hi hne => ?kb⟩) (Below.refl _ _) (fun _ => rfl)
    (fun pre W => (Arr 53 W w1.heap.size (hs (pad xs) (pre.map (·.1))) ∧ (W0.heap.size ≤ W.heap.size ∧ Bt W0.heap.size w1.heap.size W0 W)) ∧ Up w W)
    (fun _ _ _ => False) ?own
    (fun _ _ _ _ _ hs _ _ => hs)
    ⟨⟨HA2.out, Nat.le_refl _, Bt.refl _ _ _⟩, HU2.out⟩
    (fun x => { tmps := #[v, undef, .slice none 0 0, .pointer (some ⟨w1.heap.size, 0, none⟩), chk g x.1, undef, undef, undef,
      .agg #[.int .u32 1779033703, .int .u32 3144134277, .int .u32 1013904242, .int .u32 2773480762, .int .u32 1359893119, .int .u32 2600822924, .int .u32 528734635, .int .u32 1541459225],
      v, .slice (some ⟨g, 0, none⟩) (64 * m) cap, .func (.func 54) #[] #[.pointer (some ⟨w2.heap.size, 0, none⟩), .pointer (some ⟨w2.heap.size + 1, 0, none⟩)],
      chk g x.1, undef, undef, undef, undef, undef, undef, undef, undef, undef, undef, undef, undef, undef, undef], defers := [] }) ?assign ?body ?done ?stop
  case kb =>
    show (W.putObj l o').heap[i]? = W.heap[i]?
    exact (grownBy_putObj' W l o').block i (by have := (Array.getElem?_eq_some_iff.1 ho).1; omega) (by rintro e; cases e; omega)
  case own =>
    refine OwnFrom.and (OwnFrom.and (_root_.Go.Own.from ?_ _) ?_) ?_
    · intro pre A B row h hg hr
      exact Arr.own 53 w1.heap.size (fun pre => hs (pad xs) pre) _ A B row h hg hr
    · intro pre A B row h hg hr
      exact Bt.own W0.heap.size w1.heap.size W0 (Nat.le_refl _) [] A B row h hg hr
    · intro pre A B row h hg hr
      exact Up.own (by omega) [] A B row h hg hr
  case assign =>
    intro l x W K hK
    gi_wp2
    exact hK
  case body =>
    rintro l pre x W ⟨⟨hA, hS, hT⟩, hU⟩ hlt
    obtain ⟨a0, a1, a2, a3, a4, a5, a6, a7, he, hu⟩ := hs_eight (pad xs) (pre.map (·.1))
    have E8 : Eight [a0, a1, a2, a3, a4, a5, a6, a7] := ⟨_, _, _, _, _, _, _, _, rfl, hu⟩
    have HE := Lib.hid (show hs (pad xs) ((pre ++ [x]).map (·.1)) = sum1 [a0, a1, a2, a3, a4, a5, a6, a7] (cut64 (pad xs) x.1) by rw [List.map_append, List.map_cons, List.map_nil, hs_snoc, he])
    obtain ⟨b0, b1, b2, b3, b4, b5, b6, b7, hb, _⟩ := sum1_eight (cut64 (pad xs) x.1) E8
    rw [he] at hA
    have c0 := hA.cell 0 (by simp)
    have c1 := hA.cell 1 (by simp)
    have c2 := hA.cell 2 (by simp)
    have c3 := hA.cell 3 (by simp)
    have c4 := hA.cell 4 (by simp)
    have c5 := hA.cell 5 (by simp)
    have c6 := hA.cell 6 (by simp)
    have c7 := hA.cell 7 (by simp)
    simp only [List.getD_cons_zero, List.getD_cons_succ] at c0 c1 c2 c3 c4 c5 c6 c7
    have hx := x.2
    have hcc : ∀ j, j < 64 → W.cell? ⟨g, 64 * x.1 + j, none⟩ = some (.int .u8 ((cut64 (pad xs) x.1).getD j 0)) := fun j hj => by
      rw [cut64_getD _ _ hj]
      exact (hT.cell (p := ⟨g, 64 * x.1 + j, none⟩) (by show g < _; omega) (by show g ≠ _; omega)).trans (HC2.out _ (by omega))
    have HT := Lib.hid (turn_at [a0, a1, a2, a3, a4, a5, a6, a7] (cut64 (pad xs) x.1) g (64 * x.1) 64 W E8 (cut64_len hm hx) (cut64_in HP.out _) (Nat.le_refl _) hcc)
    have HA := Lib.hid hA
    have HB := Lib.hid hb
    clear hA hb hcc he hu E8
    unfold V at HT
    simp only [List.map_cons, List.map_nil] at HT
    dsimp only [chk]
    gi_wp2_with fail
    refine ⟨trivial, (CallsIn.inRound l (callsIn_wide.2 HT.out)).mono ?_⟩
    rintro e0 w5 ⟨rfl, u5⟩
    have A5 := Lib.hid (HA.out.up u5)
    rw [HB.out]
    simp only [List.map_cons, List.map_nil]
    have d0 := A5.out.cell 0 (by simp)
    have f0 := A5.out.frozen 0
    have d1 := A5.out.cell 1 (by simp)
    have f1 := A5.out.frozen 1
    have d2 := A5.out.cell 2 (by simp)
    have f2 := A5.out.frozen 2
    have d3 := A5.out.cell 3 (by simp)
    have f3 := A5.out.frozen 3
    have d4 := A5.out.cell 4 (by simp)
    have f4 := A5.out.frozen 4
    have d5 := A5.out.cell 5 (by simp)
    have f5 := A5.out.frozen 5
    have d6 := A5.out.cell 6 (by simp)
    have f6 := A5.out.frozen 6
    have d7 := A5.out.cell 7 (by simp)
    have f7 := A5.out.frozen 7
    simp only [List.getD_cons_zero, List.getD_cons_succ] at d0 d1 d2 d3 d4 d5 d6 d7
    clear c0 c1 c2 c3 c4 c5 c6 c7
    gi_wp2_with fail
    have HU5 := Lib.hid (hU.trans u5)
    have HT5 : Bt W0.heap.size w1.heap.size W w5 := Bt.of_below u5.out hS
    have HK5 : KeepsOthers W w5 := ⟨u5.out.size, fun k o hk _ => (u5.out.block k (Array.getElem?_eq_some_iff.1 hk).1).trans hk⟩
    refine ⟨HK5.trans (st8_others w5 w1.heap.size b0 b1 b2 b3 b4 b5 b6 b7), st8_bt b0 b1 b2 b3 b4 b5 b6 b7 HT5, ⟨?_, ?_, ?_⟩, ?_⟩
    · rw [HE.out, HB.out]; exact st8_arr b0 b1 b2 b3 b4 b5 b6 b7 A5.out
    · exact Nat.le_trans hS (Nat.le_trans u5.out.size (st8_size w5 _ b0 b1 b2 b3 b4 b5 b6 b7))
    · exact st8_bt b0 b1 b2 b3 b4 b5 b6 b7 (hT.trans HT5)
    · exact st8_up _ b0 b1 b2 b3 b4 b5 b6 b7 HU5.out hqw
  case done =>
    rintro D ys W hD hys ⟨⟨hA, hS, hT⟩, hU⟩ hK
    have hsh : shaL xs = outB (hs (pad xs) (ys.map (·.1))) 8 := by
      unfold shaL
      rw [hys, hm, Nat.mul_div_cancel_left _ (by omega)]
    have HS := Lib.hid hsh
    rw [hsh]
    clear hsh hys
    obtain ⟨a0, a1, a2, a3, a4, a5, a6, a7, he, hu⟩ := hs_eight (pad xs) (ys.map (·.1))
    rw [he] at hA ⊢
    have c0 := hA.cell 0 (by simp)
    have c1 := hA.cell 1 (by simp)
    have c2 := hA.cell 2 (by simp)
    have c3 := hA.cell 3 (by simp)
    have c4 := hA.cell 4 (by simp)
    have c5 := hA.cell 5 (by simp)
    have c6 := hA.cell 6 (by simp)
    have c7 := hA.cell 7 (by simp)
    simp only [List.getD_cons_zero, List.getD_cons_succ] at c0 c1 c2 c3 c4 c5 c6 c7
    show K1 _ _
    refine hK1 _ _ (wpIn_wide.2 ?_)
    go_wp2_with fail
    go_loopw [5, 17] (fun s i wr => ∃ k : Nat, k ≤ 8 ∧ i = .int .i64 k ∧ Ow .u8 5 wr W.heap.size s (outB [a0, a1, a2, a3, a4, a5, a6, a7] k) ∧ Up W wr) (fun _ i _ => 8 - (intOf i).toNat)
    case atStart => exact ⟨0, by omega, rfl, Ow.nil _ _ _ _, Up.refl _⟩
    case round =>
      obtain ⟨k, hk, rfl, ho, hup⟩ := hrel
      have HO := Lib.hid ho
      have HUP := Lib.hid hup
      clear ho hup
      have hk9 : k = 0 ∨ k = 1 ∨ k = 2 ∨ k = 3 ∨ k = 4 ∨ k = 5 ∨ k = 6 ∨ k = 7 ∨ k = 8 := by omega
      rcases hk9 with rfl | rfl | rfl | rfl | rfl | rfl | rfl | rfl | rfl
      · have hix : ∀ W' : World, (Instr.index 53 (.agg #[.int .u32 a0, .int .u32 a1, .int .u32 a2, .int .u32 a3, .int .u32 a4, .int .u32 a5, .int .u32 a6, .int .u32 a7]) (.int .i64 0)).run Try.prog W' = .ok (.int .u32 a0) W' := fun W' => by kernel_rfl
        have hak := hu a0 (by simp)
        have hcv : a0 % 18446744073709551616 = a0 := by unfold U32 at hak; omega
        have hak0 : 0 ≤ a0 := by unfold U32 at hak; omega
        go_wp2_with fail
        refine (great_4 a0 wr hak0).mono ?_
        rintro e0 w6 ⟨v6, rfl, o6, u6⟩
        go_wp2_with (at_builtin; refine append_k .u8 38 5 1 Try.underlying38 infoB (by omega) rfl _ _ rfl W.heap.size _ _ (outB [a0, a1, a2, a3, a4, a5, a6, a7] 0) (gr a0 4) rfl rfl (HO.out.up u6) o6.rd (by rw [gr_len]; omega) (by rw [outB_len _ _ (by simp), gr_len]; omega) ((HUP.out.trans u6).out.size) (HUP.out.trans u6) (Nat.le_refl _) ?_)
        intro v7 w7 o7 u7
        have O7 := Lib.hid (show Ow .u8 5 w7 W.heap.size v7 (outB [a0, a1, a2, a3, a4, a5, a6, a7] (0 + 1)) by rw [outB_succ _ _ (by simp)]; exact o7)
        clear o7
        go_wp2
        go_roundw
        case rel => exact ⟨0 + 1, by omega, rfl, O7.out, u7⟩
        case measure => simp [intOf]
      · have hix : ∀ W' : World, (Instr.index 53 (.agg #[.int .u32 a0, .int .u32 a1, .int .u32 a2, .int .u32 a3, .int .u32 a4, .int .u32 a5, .int .u32 a6, .int .u32 a7]) (.int .i64 1)).run Try.prog W' = .ok (.int .u32 a1) W' := fun W' => by kernel_rfl
        have hak := hu a1 (by simp)
        have hcv : a1 % 18446744073709551616 = a1 := by unfold U32 at hak; omega
        have hak0 : 0 ≤ a1 := by unfold U32 at hak; omega
        go_wp2_with fail
        refine (great_4 a1 wr hak0).mono ?_
        rintro e0 w6 ⟨v6, rfl, o6, u6⟩
        go_wp2_with (at_builtin; refine append_k .u8 38 5 1 Try.underlying38 infoB (by omega) rfl _ _ rfl W.heap.size _ _ (outB [a0, a1, a2, a3, a4, a5, a6, a7] 1) (gr a1 4) rfl rfl (HO.out.up u6) o6.rd (by rw [gr_len]; omega) (by rw [outB_len _ _ (by simp), gr_len]; omega) ((HUP.out.trans u6).out.size) (HUP.out.trans u6) (Nat.le_refl _) ?_)
        intro v7 w7 o7 u7
        have O7 := Lib.hid (show Ow .u8 5 w7 W.heap.size v7 (outB [a0, a1, a2, a3, a4, a5, a6, a7] (1 + 1)) by rw [outB_succ _ _ (by simp)]; exact o7)
        clear o7
        go_wp2
        go_roundw
        case rel => exact ⟨1 + 1, by omega, rfl, O7.out, u7⟩
        case measure => simp [intOf]
      · have hix : ∀ W' : World, (Instr.index 53 (.agg #[.int .u32 a0, .int .u32 a1, .int .u32 a2, .int .u32 a3, .int .u32 a4, .int .u32 a5, .int .u32 a6, .int .u32 a7]) (.int .i64 2)).run Try.prog W' = .ok (.int .u32 a2) W' := fun W' => by kernel_rfl
        have hak := hu a2 (by simp)
        have hcv : a2 % 18446744073709551616 = a2 := by unfold U32 at hak; omega
        have hak0 : 0 ≤ a2 := by unfold U32 at hak; omega
        go_wp2_with fail
        refine (great_4 a2 wr hak0).mono ?_
        rintro e0 w6 ⟨v6, rfl, o6, u6⟩
        go_wp2_with (at_builtin; refine append_k .u8 38 5 1 Try.underlying38 infoB (by omega) rfl _ _ rfl W.heap.size _ _ (outB [a0, a1, a2, a3, a4, a5, a6, a7] 2) (gr a2 4) rfl rfl (HO.out.up u6) o6.rd (by rw [gr_len]; omega) (by rw [outB_len _ _ (by simp), gr_len]; omega) ((HUP.out.trans u6).out.size) (HUP.out.trans u6) (Nat.le_refl _) ?_)
        intro v7 w7 o7 u7
        have O7 := Lib.hid (show Ow .u8 5 w7 W.heap.size v7 (outB [a0, a1, a2, a3, a4, a5, a6, a7] (2 + 1)) by rw [outB_succ _ _ (by simp)]; exact o7)
        clear o7
        go_wp2
        go_roundw
        case rel => exact ⟨2 + 1, by omega, rfl, O7.out, u7⟩
        case measure => simp [intOf]
      · have hix : ∀ W' : World, (Instr.index 53 (.agg #[.int .u32 a0, .int .u32 a1, .int .u32 a2, .int .u32 a3, .int .u32 a4, .int .u32 a5, .int .u32 a6, .int .u32 a7]) (.int .i64 3)).run Try.prog W' = .ok (.int .u32 a3) W' := fun W' => by kernel_rfl
        have hak := hu a3 (by simp)
        have hcv : a3 % 18446744073709551616 = a3 := by unfold U32 at hak; omega
        have hak0 : 0 ≤ a3 := by unfold U32 at hak; omega
        go_wp2_with fail
        refine (great_4 a3 wr hak0).mono ?_
        rintro e0 w6 ⟨v6, rfl, o6, u6⟩
        go_wp2_with (at_builtin; refine append_k .u8 38 5 1 Try.underlying38 infoB (by omega) rfl _ _ rfl W.heap.size _ _ (outB [a0, a1, a2, a3, a4, a5, a6, a7] 3) (gr a3 4) rfl rfl (HO.out.up u6) o6.rd (by rw [gr_len]; omega) (by rw [outB_len _ _ (by simp), gr_len]; omega) ((HUP.out.trans u6).out.size) (HUP.out.trans u6) (Nat.le_refl _) ?_)
        intro v7 w7 o7 u7
        have O7 := Lib.hid (show Ow .u8 5 w7 W.heap.size v7 (outB [a0, a1, a2, a3, a4, a5, a6, a7] (3 + 1)) by rw [outB_succ _ _ (by simp)]; exact o7)
        clear o7
        go_wp2
        go_roundw
        case rel => exact ⟨3 + 1, by omega, rfl, O7.out, u7⟩
        case measure => simp [intOf]
      · have hix : ∀ W' : World, (Instr.index 53 (.agg #[.int .u32 a0, .int .u32 a1, .int .u32 a2, .int .u32 a3, .int .u32 a4, .int .u32 a5, .int .u32 a6, .int .u32 a7]) (.int .i64 4)).run Try.prog W' = .ok (.int .u32 a4) W' := fun W' => by kernel_rfl
        have hak := hu a4 (by simp)
        have hcv : a4 % 18446744073709551616 = a4 := by unfold U32 at hak; omega
        have hak0 : 0 ≤ a4 := by unfold U32 at hak; omega
        go_wp2_with fail
        refine (great_4 a4 wr hak0).mono ?_
        rintro e0 w6 ⟨v6, rfl, o6, u6⟩
        go_wp2_with (at_builtin; refine append_k .u8 38 5 1 Try.underlying38 infoB (by omega) rfl _ _ rfl W.heap.size _ _ (outB [a0, a1, a2, a3, a4, a5, a6, a7] 4) (gr a4 4) rfl rfl (HO.out.up u6) o6.rd (by rw [gr_len]; omega) (by rw [outB_len _ _ (by simp), gr_len]; omega) ((HUP.out.trans u6).out.size) (HUP.out.trans u6) (Nat.le_refl _) ?_)
        intro v7 w7 o7 u7
        have O7 := Lib.hid (show Ow .u8 5 w7 W.heap.size v7 (outB [a0, a1, a2, a3, a4, a5, a6, a7] (4 + 1)) by rw [outB_succ _ _ (by simp)]; exact o7)
        clear o7
        go_wp2
        go_roundw
        case rel => exact ⟨4 + 1, by omega, rfl, O7.out, u7⟩
        case measure => simp [intOf]
      · have hix : ∀ W' : World, (Instr.index 53 (.agg #[.int .u32 a0, .int .u32 a1, .int .u32 a2, .int .u32 a3, .int .u32 a4, .int .u32 a5, .int .u32 a6, .int .u32 a7]) (.int .i64 5)).run Try.prog W' = .ok (.int .u32 a5) W' := fun W' => by kernel_rfl
        have hak := hu a5 (by simp)
        have hcv : a5 % 18446744073709551616 = a5 := by unfold U32 at hak; omega
        have hak0 : 0 ≤ a5 := by unfold U32 at hak; omega
        go_wp2_with fail
        refine (great_4 a5 wr hak0).mono ?_
        rintro e0 w6 ⟨v6, rfl, o6, u6⟩
        go_wp2_with (at_builtin; refine append_k .u8 38 5 1 Try.underlying38 infoB (by omega) rfl _ _ rfl W.heap.size _ _ (outB [a0, a1, a2, a3, a4, a5, a6, a7] 5) (gr a5 4) rfl rfl (HO.out.up u6) o6.rd (by rw [gr_len]; omega) (by rw [outB_len _ _ (by simp), gr_len]; omega) ((HUP.out.trans u6).out.size) (HUP.out.trans u6) (Nat.le_refl _) ?_)
        intro v7 w7 o7 u7
        have O7 := Lib.hid (show Ow .u8 5 w7 W.heap.size v7 (outB [a0, a1, a2, a3, a4, a5, a6, a7] (5 + 1)) by rw [outB_succ _ _ (by simp)]; exact o7)
        clear o7
        go_wp2
        go_roundw
        case rel => exact ⟨5 + 1, by omega, rfl, O7.out, u7⟩
        case measure => simp [intOf]
      · have hix : ∀ W' : World, (Instr.index 53 (.agg #[.int .u32 a0, .int .u32 a1, .int .u32 a2, .int .u32 a3, .int .u32 a4, .int .u32 a5, .int .u32 a6, .int .u32 a7]) (.int .i64 6)).run Try.prog W' = .ok (.int .u32 a6) W' := fun W' => by kernel_rfl
        have hak := hu a6 (by simp)
        have hcv : a6 % 18446744073709551616 = a6 := by unfold U32 at hak; omega
        have hak0 : 0 ≤ a6 := by unfold U32 at hak; omega
        go_wp2_with fail
        refine (great_4 a6 wr hak0).mono ?_
        rintro e0 w6 ⟨v6, rfl, o6, u6⟩
        go_wp2_with (at_builtin; refine append_k .u8 38 5 1 Try.underlying38 infoB (by omega) rfl _ _ rfl W.heap.size _ _ (outB [a0, a1, a2, a3, a4, a5, a6, a7] 6) (gr a6 4) rfl rfl (HO.out.up u6) o6.rd (by rw [gr_len]; omega) (by rw [outB_len _ _ (by simp), gr_len]; omega) ((HUP.out.trans u6).out.size) (HUP.out.trans u6) (Nat.le_refl _) ?_)
        intro v7 w7 o7 u7
        have O7 := Lib.hid (show Ow .u8 5 w7 W.heap.size v7 (outB [a0, a1, a2, a3, a4, a5, a6, a7] (6 + 1)) by rw [outB_succ _ _ (by simp)]; exact o7)
        clear o7
        go_wp2
        go_roundw
        case rel => exact ⟨6 + 1, by omega, rfl, O7.out, u7⟩
        case measure => simp [intOf]
      · have hix : ∀ W' : World, (Instr.index 53 (.agg #[.int .u32 a0, .int .u32 a1, .int .u32 a2, .int .u32 a3, .int .u32 a4, .int .u32 a5, .int .u32 a6, .int .u32 a7]) (.int .i64 7)).run Try.prog W' = .ok (.int .u32 a7) W' := fun W' => by kernel_rfl
        have hak := hu a7 (by simp)
        have hcv : a7 % 18446744073709551616 = a7 := by unfold U32 at hak; omega
        have hak0 : 0 ≤ a7 := by unfold U32 at hak; omega
        go_wp2_with fail
        refine (great_4 a7 wr hak0).mono ?_
        rintro e0 w6 ⟨v6, rfl, o6, u6⟩
        go_wp2_with (at_builtin; refine append_k .u8 38 5 1 Try.underlying38 infoB (by omega) rfl _ _ rfl W.heap.size _ _ (outB [a0, a1, a2, a3, a4, a5, a6, a7] 7) (gr a7 4) rfl rfl (HO.out.up u6) o6.rd (by rw [gr_len]; omega) (by rw [outB_len _ _ (by simp), gr_len]; omega) ((HUP.out.trans u6).out.size) (HUP.out.trans u6) (Nat.le_refl _) ?_)
        intro v7 w7 o7 u7
        have O7 := Lib.hid (show Ow .u8 5 w7 W.heap.size v7 (outB [a0, a1, a2, a3, a4, a5, a6, a7] (7 + 1)) by rw [outB_succ _ _ (by simp)]; exact o7)
        clear o7
        go_wp2
        go_roundw
        case rel => exact ⟨7 + 1, by omega, rfl, O7.out, u7⟩
        case measure => simp [intOf]
      · go_wp2_with fail
        have hDl : D < W.heap.size := (Array.getElem?_eq_some_iff.1 hK).1
        have hK2 : wr.heap[D]? = some (.deferred (some [])) := (HUP.out.out.block D hDl).trans hK
        have hwD : w.heap.size ≤ D := Nat.le_trans HU2.out.out.size hD
        have hwW : w.heap.size ≤ W.heap.size := hU.out.size
        refine ⟨by simp, .inl ⟨_, _, rfl, run_takeDeferred hK2, ?_⟩⟩
        refine ⟨_, results_tmp rfl _ _ _, _, rfl, ?_, ?_⟩
        · rw [HS.out, he]
          have h1 := HO.out
          have h2 : Ow .u8 5 wr w.heap.size u5 (outB [a0, a1, a2, a3, a4, a5, a6, a7] 8) :=
            ⟨h1.1, h1.2.imp id (fun ⟨g, cap, cur, e, hb, r⟩ => ⟨g, cap, cur, e, Nat.le_trans hwW hb, r⟩)⟩
          exact ownsRow_putObj h2 _ hK2 rfl
        · exact (hU.trans HUP.out).trans_put D _ hwD hK2
  case stop =>
    rintro D c pre W _ _ h _
    exact h.elim

end Go.Proofs.Yteeibpeefhaoiaa
