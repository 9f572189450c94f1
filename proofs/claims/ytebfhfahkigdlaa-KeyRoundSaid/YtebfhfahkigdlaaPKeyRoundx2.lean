-- PRINTED BY print.sh 35421559b90ae4d0a3588c463048766b98c2df88dd9212a6774a882060cdf62d: not written by this session
import Derived.Test.YtebfhfahkigdlaaPKeyRoundx0
import Derived.Test.YtebfhfahkigdlaaPKeyRoundx1
namespace Go.Proofs.Ytebfhfahkigdlaa.PKeyRound
open Go.RowKit Go.Proofs.YtebfhfahkigdlaaW.PrintWords Go.Proofs.YtebfhfahkigdlaaW.PrintLast Go.Proofs.YtebfhfahkigdlaaW.PrintMore
attribute [local go_sem] max2_int min2_int max_two min_two max_three min_three max_four min_four   -- for this text's walks alone
set_option linter.unusedVariables false
set_option linter.unusedSimpArgs false

/-! ### bellwetherlaw02_KeyRound: function 7 -/
def bellwetherlaw02_KeyRound.j0 : Nat → Int → Int → Int → Int → Int → Int → Int → Bool → Option (Bool)
  | 0, _, _, _, _, _, _, _, _ => none
  | k + 1, x0, x1, x2, x7, x9, x11, x13, x87 => if x87 = true then (some false) else (if x0 = x1 then (if x7 = 0 then (if x9 = 0 then ((bellwetherlaw02_wakes.f k).bind fun t130 => (some t130)) else (some false)) else (some false)) else (if x7 = (wrap64 (4611686018427387904 - x9)) then (if x11 < (wrap64 (4611686018427387904 - x7)) then (if x13 = (wrap64 ((wrap64 (4611686018427387904 - x7)) - x11)) then ((key_Between.f k x0 x1 x2).bind fun t131 => (if t131 = true then ((bellwetherlaw02_wakes.f k).bind fun t132 => (some t132)) else (some false))) else (some false)) else (if x11 = (wrap64 (4611686018427387904 - x7)) then (if x13 = 0 then ((bellwetherlaw02_wakes.f k).bind fun t133 => (some t133)) else (if x11 > (wrap64 (4611686018427387904 - x7)) then (if x13 = (wrap64 (4611686018427387904 - (wrap64 (x11 - (wrap64 (4611686018427387904 - x7)))))) then ((bellwetherlaw02_wakes.f k).bind fun t134 => (some t134)) else (some false)) else (some false))) else (if x11 > (wrap64 (4611686018427387904 - x7)) then (if x13 = (wrap64 (4611686018427387904 - (wrap64 (x11 - (wrap64 (4611686018427387904 - x7)))))) then ((bellwetherlaw02_wakes.f k).bind fun t135 => (some t135)) else (some false)) else (some false)))) else (some false)))
def bellwetherlaw02_KeyRound.f (k : Nat) (a0 : Int) (a1 : Int) (a2 : Int) : Option (Bool) := (bellwetherlaw02_Some.f a0).bind fun t119 => ((bellwetherlaw02_Some.f a1).bind fun t120 => ((bellwetherlaw02_Some.f a2).bind fun t121 => ((key_Behind.f t119 t120).bind fun bt122 => ((key_Behind.f t120 t119).bind fun bt124 => ((key_Behind.f t120 t121).bind fun bt126 => ((key_Behind.f t121 t119).bind fun bt128 => (if bt122.2 = 0 then (if bt124.2 = 0 then (if bt126.2 = 0 then (if bt128.2 = 0 then (if bt122.1 < 0 then (bellwetherlaw02_KeyRound.j0 k t119 t120 t121 bt122.1 bt124.1 bt126.1 bt128.1 true) else (if bt122.1 ≥ 4611686018427387904 then (bellwetherlaw02_KeyRound.j0 k t119 t120 t121 bt122.1 bt124.1 bt126.1 bt128.1 true) else (if bt124.1 < 0 then (bellwetherlaw02_KeyRound.j0 k t119 t120 t121 bt122.1 bt124.1 bt126.1 bt128.1 true) else (if bt126.1 < 0 then (bellwetherlaw02_KeyRound.j0 k t119 t120 t121 bt122.1 bt124.1 bt126.1 bt128.1 true) else (if bt126.1 ≥ 4611686018427387904 then (bellwetherlaw02_KeyRound.j0 k t119 t120 t121 bt122.1 bt124.1 bt126.1 bt128.1 true) else (if bt128.1 < 0 then (bellwetherlaw02_KeyRound.j0 k t119 t120 t121 bt122.1 bt124.1 bt126.1 bt128.1 true) else (bellwetherlaw02_KeyRound.j0 k t119 t120 t121 bt122.1 bt124.1 bt126.1 bt128.1 (decide (bt128.1 ≥ 4611686018427387904))))))))) else (bellwetherlaw02_KeyRound.j0 k t119 t120 t121 bt122.1 bt124.1 bt126.1 bt128.1 true)) else (bellwetherlaw02_KeyRound.j0 k t119 t120 t121 bt122.1 bt124.1 bt126.1 bt128.1 true)) else (bellwetherlaw02_KeyRound.j0 k t119 t120 t121 bt122.1 bt124.1 bt126.1 bt128.1 true)) else (bellwetherlaw02_KeyRound.j0 k t119 t120 t121 bt122.1 bt124.1 bt126.1 bt128.1 true))))))))
theorem bellwetherlaw02_KeyRound.mono_l : ∀ k, (∀ y0 y1 y2 y3 y4 y5 y6 y7, LeO (bellwetherlaw02_KeyRound.j0 k y0 y1 y2 y3 y4 y5 y6 y7) (bellwetherlaw02_KeyRound.j0 (k + 1) y0 y1 y2 y3 y4 y5 y6 y7))
  | 0 => fun _ _ _ _ _ _ _ _ r h => by simp [bellwetherlaw02_KeyRound.j0] at h
  | k + 1 => by
    have ih0 := bellwetherlaw02_KeyRound.mono_l k
    · intro y0 y1 y2 y3 y4 y5 y6 y7
      unfold bellwetherlaw02_KeyRound.j0
      repeat' first
      | (with_reducible exact ih0 _ _ _ _ _ _ _ _)
      | (with_reducible exact bellwetherlaw02_wakes.mono _)
      | (with_reducible exact key_Between.mono _ _ _ _)
      | (with_reducible exact LeO.refl _)
      | (with_reducible exact LeO.none _)
      | (with_reducible refine LeO.ite ?_ ?_)
      | (with_reducible refine LeO.bind ?_ (fun _ => ?_))
      | exact ih0 _ _ _ _ _ _ _ _
      | exact bellwetherlaw02_wakes.mono _
      | exact key_Between.mono _ _ _ _
      | exact LeO.none _
      | refine LeO.ite ?_ ?_
      | refine LeO.bind ?_ (fun _ => ?_)
theorem bellwetherlaw02_KeyRound.mono : ∀ a0 a1 a2 k, LeO (bellwetherlaw02_KeyRound.f k a0 a1 a2) (bellwetherlaw02_KeyRound.f (k + 1) a0 a1 a2) := by
  intro a0 a1 a2 k
  have ih0 := bellwetherlaw02_KeyRound.mono_l k
  unfold bellwetherlaw02_KeyRound.f
  repeat' first
      | (with_reducible exact ih0 _ _ _ _ _ _ _ _)
      | (with_reducible exact bellwetherlaw02_wakes.mono _)
      | (with_reducible exact key_Between.mono _ _ _ _)
      | (with_reducible exact LeO.refl _)
      | (with_reducible exact LeO.none _)
      | (with_reducible refine LeO.ite ?_ ?_)
      | (with_reducible refine LeO.bind ?_ (fun _ => ?_))
      | exact ih0 _ _ _ _ _ _ _ _
      | exact bellwetherlaw02_wakes.mono _
      | exact key_Between.mono _ _ _ _
      | exact LeO.none _
      | refine LeO.ite ?_ ?_
      | refine LeO.bind ?_ (fun _ => ?_)
set_option maxHeartbeats 8000000 in
set_option maxRecDepth 100000 in
theorem bellwetherlaw02_KeyRound.calls (k : Nat) (a0 : Int) (a1 : Int) (a2 : Int) (r : Bool) (w : World) (h : bellwetherlaw02_KeyRound.f k a0 a1 a2 = some r) :
    Calls Try.prog 7 #[.int .i64 a0, .int .i64 a1, .int .i64 a2] w fun e w' => e = .returned (.bool r) ∧ Drawn0 w w' := by
  have H : ((bellwetherlaw02_Some.f a0).bind fun t119 => ((bellwetherlaw02_Some.f a1).bind fun t120 => ((bellwetherlaw02_Some.f a2).bind fun t121 => ((key_Behind.f t119 t120).bind fun bt122 => ((key_Behind.f t120 t119).bind fun bt124 => ((key_Behind.f t120 t121).bind fun bt126 => ((key_Behind.f t121 t119).bind fun bt128 => (if bt122.2 = 0 then (if bt124.2 = 0 then (if bt126.2 = 0 then (if bt128.2 = 0 then (if bt122.1 < 0 then (bellwetherlaw02_KeyRound.j0 k t119 t120 t121 bt122.1 bt124.1 bt126.1 bt128.1 true) else (if bt122.1 ≥ 4611686018427387904 then (bellwetherlaw02_KeyRound.j0 k t119 t120 t121 bt122.1 bt124.1 bt126.1 bt128.1 true) else (if bt124.1 < 0 then (bellwetherlaw02_KeyRound.j0 k t119 t120 t121 bt122.1 bt124.1 bt126.1 bt128.1 true) else (if bt126.1 < 0 then (bellwetherlaw02_KeyRound.j0 k t119 t120 t121 bt122.1 bt124.1 bt126.1 bt128.1 true) else (if bt126.1 ≥ 4611686018427387904 then (bellwetherlaw02_KeyRound.j0 k t119 t120 t121 bt122.1 bt124.1 bt126.1 bt128.1 true) else (if bt128.1 < 0 then (bellwetherlaw02_KeyRound.j0 k t119 t120 t121 bt122.1 bt124.1 bt126.1 bt128.1 true) else (bellwetherlaw02_KeyRound.j0 k t119 t120 t121 bt122.1 bt124.1 bt126.1 bt128.1 (decide (bt128.1 ≥ 4611686018427387904))))))))) else (bellwetherlaw02_KeyRound.j0 k t119 t120 t121 bt122.1 bt124.1 bt126.1 bt128.1 true)) else (bellwetherlaw02_KeyRound.j0 k t119 t120 t121 bt122.1 bt124.1 bt126.1 bt128.1 true)) else (bellwetherlaw02_KeyRound.j0 k t119 t120 t121 bt122.1 bt124.1 bt126.1 bt128.1 true)) else (bellwetherlaw02_KeyRound.j0 k t119 t120 t121 bt122.1 bt124.1 bt126.1 bt128.1 true))))))))) = some r := h
  clear h
  replace H := Option.bind_eq_some_iff.mp H
  obtain ⟨t119, A40, H⟩ := H
  replace H : ((bellwetherlaw02_Some.f a1).bind fun t120 => ((bellwetherlaw02_Some.f a2).bind fun t121 => ((key_Behind.f t119 t120).bind fun bt122 => ((key_Behind.f t120 t119).bind fun bt124 => ((key_Behind.f t120 t121).bind fun bt126 => ((key_Behind.f t121 t119).bind fun bt128 => (if bt122.2 = 0 then (if bt124.2 = 0 then (if bt126.2 = 0 then (if bt128.2 = 0 then (if bt122.1 < 0 then (bellwetherlaw02_KeyRound.j0 k t119 t120 t121 bt122.1 bt124.1 bt126.1 bt128.1 true) else (if bt122.1 ≥ 4611686018427387904 then (bellwetherlaw02_KeyRound.j0 k t119 t120 t121 bt122.1 bt124.1 bt126.1 bt128.1 true) else (if bt124.1 < 0 then (bellwetherlaw02_KeyRound.j0 k t119 t120 t121 bt122.1 bt124.1 bt126.1 bt128.1 true) else (if bt126.1 < 0 then (bellwetherlaw02_KeyRound.j0 k t119 t120 t121 bt122.1 bt124.1 bt126.1 bt128.1 true) else (if bt126.1 ≥ 4611686018427387904 then (bellwetherlaw02_KeyRound.j0 k t119 t120 t121 bt122.1 bt124.1 bt126.1 bt128.1 true) else (if bt128.1 < 0 then (bellwetherlaw02_KeyRound.j0 k t119 t120 t121 bt122.1 bt124.1 bt126.1 bt128.1 true) else (bellwetherlaw02_KeyRound.j0 k t119 t120 t121 bt122.1 bt124.1 bt126.1 bt128.1 (decide (bt128.1 ≥ 4611686018427387904))))))))) else (bellwetherlaw02_KeyRound.j0 k t119 t120 t121 bt122.1 bt124.1 bt126.1 bt128.1 true)) else (bellwetherlaw02_KeyRound.j0 k t119 t120 t121 bt122.1 bt124.1 bt126.1 bt128.1 true)) else (bellwetherlaw02_KeyRound.j0 k t119 t120 t121 bt122.1 bt124.1 bt126.1 bt128.1 true)) else (bellwetherlaw02_KeyRound.j0 k t119 t120 t121 bt122.1 bt124.1 bt126.1 bt128.1 true)))))))) = some r := H
  have A4 := Aside0.mk A40
  clear A40
  replace H := Option.bind_eq_some_iff.mp H
  obtain ⟨t120, A50, H⟩ := H
  replace H : ((bellwetherlaw02_Some.f a2).bind fun t121 => ((key_Behind.f t119 t120).bind fun bt122 => ((key_Behind.f t120 t119).bind fun bt124 => ((key_Behind.f t120 t121).bind fun bt126 => ((key_Behind.f t121 t119).bind fun bt128 => (if bt122.2 = 0 then (if bt124.2 = 0 then (if bt126.2 = 0 then (if bt128.2 = 0 then (if bt122.1 < 0 then (bellwetherlaw02_KeyRound.j0 k t119 t120 t121 bt122.1 bt124.1 bt126.1 bt128.1 true) else (if bt122.1 ≥ 4611686018427387904 then (bellwetherlaw02_KeyRound.j0 k t119 t120 t121 bt122.1 bt124.1 bt126.1 bt128.1 true) else (if bt124.1 < 0 then (bellwetherlaw02_KeyRound.j0 k t119 t120 t121 bt122.1 bt124.1 bt126.1 bt128.1 true) else (if bt126.1 < 0 then (bellwetherlaw02_KeyRound.j0 k t119 t120 t121 bt122.1 bt124.1 bt126.1 bt128.1 true) else (if bt126.1 ≥ 4611686018427387904 then (bellwetherlaw02_KeyRound.j0 k t119 t120 t121 bt122.1 bt124.1 bt126.1 bt128.1 true) else (if bt128.1 < 0 then (bellwetherlaw02_KeyRound.j0 k t119 t120 t121 bt122.1 bt124.1 bt126.1 bt128.1 true) else (bellwetherlaw02_KeyRound.j0 k t119 t120 t121 bt122.1 bt124.1 bt126.1 bt128.1 (decide (bt128.1 ≥ 4611686018427387904))))))))) else (bellwetherlaw02_KeyRound.j0 k t119 t120 t121 bt122.1 bt124.1 bt126.1 bt128.1 true)) else (bellwetherlaw02_KeyRound.j0 k t119 t120 t121 bt122.1 bt124.1 bt126.1 bt128.1 true)) else (bellwetherlaw02_KeyRound.j0 k t119 t120 t121 bt122.1 bt124.1 bt126.1 bt128.1 true)) else (bellwetherlaw02_KeyRound.j0 k t119 t120 t121 bt122.1 bt124.1 bt126.1 bt128.1 true))))))) = some r := H
  have A5 := Aside0.mk A50
  clear A50
  replace H := Option.bind_eq_some_iff.mp H
  obtain ⟨t121, A60, H⟩ := H
  replace H : ((key_Behind.f t119 t120).bind fun bt122 => ((key_Behind.f t120 t119).bind fun bt124 => ((key_Behind.f t120 t121).bind fun bt126 => ((key_Behind.f t121 t119).bind fun bt128 => (if bt122.2 = 0 then (if bt124.2 = 0 then (if bt126.2 = 0 then (if bt128.2 = 0 then (if bt122.1 < 0 then (bellwetherlaw02_KeyRound.j0 k t119 t120 t121 bt122.1 bt124.1 bt126.1 bt128.1 true) else (if bt122.1 ≥ 4611686018427387904 then (bellwetherlaw02_KeyRound.j0 k t119 t120 t121 bt122.1 bt124.1 bt126.1 bt128.1 true) else (if bt124.1 < 0 then (bellwetherlaw02_KeyRound.j0 k t119 t120 t121 bt122.1 bt124.1 bt126.1 bt128.1 true) else (if bt126.1 < 0 then (bellwetherlaw02_KeyRound.j0 k t119 t120 t121 bt122.1 bt124.1 bt126.1 bt128.1 true) else (if bt126.1 ≥ 4611686018427387904 then (bellwetherlaw02_KeyRound.j0 k t119 t120 t121 bt122.1 bt124.1 bt126.1 bt128.1 true) else (if bt128.1 < 0 then (bellwetherlaw02_KeyRound.j0 k t119 t120 t121 bt122.1 bt124.1 bt126.1 bt128.1 true) else (bellwetherlaw02_KeyRound.j0 k t119 t120 t121 bt122.1 bt124.1 bt126.1 bt128.1 (decide (bt128.1 ≥ 4611686018427387904))))))))) else (bellwetherlaw02_KeyRound.j0 k t119 t120 t121 bt122.1 bt124.1 bt126.1 bt128.1 true)) else (bellwetherlaw02_KeyRound.j0 k t119 t120 t121 bt122.1 bt124.1 bt126.1 bt128.1 true)) else (bellwetherlaw02_KeyRound.j0 k t119 t120 t121 bt122.1 bt124.1 bt126.1 bt128.1 true)) else (bellwetherlaw02_KeyRound.j0 k t119 t120 t121 bt122.1 bt124.1 bt126.1 bt128.1 true)))))) = some r := H
  have A6 := Aside0.mk A60
  clear A60
  replace H := Option.bind_eq_some_iff.mp H
  obtain ⟨⟨t122, t123⟩, A70, H⟩ := H
  replace H : ((key_Behind.f t120 t119).bind fun bt124 => ((key_Behind.f t120 t121).bind fun bt126 => ((key_Behind.f t121 t119).bind fun bt128 => (if t123 = 0 then (if bt124.2 = 0 then (if bt126.2 = 0 then (if bt128.2 = 0 then (if t122 < 0 then (bellwetherlaw02_KeyRound.j0 k t119 t120 t121 t122 bt124.1 bt126.1 bt128.1 true) else (if t122 ≥ 4611686018427387904 then (bellwetherlaw02_KeyRound.j0 k t119 t120 t121 t122 bt124.1 bt126.1 bt128.1 true) else (if bt124.1 < 0 then (bellwetherlaw02_KeyRound.j0 k t119 t120 t121 t122 bt124.1 bt126.1 bt128.1 true) else (if bt126.1 < 0 then (bellwetherlaw02_KeyRound.j0 k t119 t120 t121 t122 bt124.1 bt126.1 bt128.1 true) else (if bt126.1 ≥ 4611686018427387904 then (bellwetherlaw02_KeyRound.j0 k t119 t120 t121 t122 bt124.1 bt126.1 bt128.1 true) else (if bt128.1 < 0 then (bellwetherlaw02_KeyRound.j0 k t119 t120 t121 t122 bt124.1 bt126.1 bt128.1 true) else (bellwetherlaw02_KeyRound.j0 k t119 t120 t121 t122 bt124.1 bt126.1 bt128.1 (decide (bt128.1 ≥ 4611686018427387904))))))))) else (bellwetherlaw02_KeyRound.j0 k t119 t120 t121 t122 bt124.1 bt126.1 bt128.1 true)) else (bellwetherlaw02_KeyRound.j0 k t119 t120 t121 t122 bt124.1 bt126.1 bt128.1 true)) else (bellwetherlaw02_KeyRound.j0 k t119 t120 t121 t122 bt124.1 bt126.1 bt128.1 true)) else (bellwetherlaw02_KeyRound.j0 k t119 t120 t121 t122 bt124.1 bt126.1 bt128.1 true))))) = some r := H
  have A7 := Aside0.mk A70
  clear A70
  replace H := Option.bind_eq_some_iff.mp H
  obtain ⟨⟨t124, t125⟩, A80, H⟩ := H
  replace H : ((key_Behind.f t120 t121).bind fun bt126 => ((key_Behind.f t121 t119).bind fun bt128 => (if t123 = 0 then (if t125 = 0 then (if bt126.2 = 0 then (if bt128.2 = 0 then (if t122 < 0 then (bellwetherlaw02_KeyRound.j0 k t119 t120 t121 t122 t124 bt126.1 bt128.1 true) else (if t122 ≥ 4611686018427387904 then (bellwetherlaw02_KeyRound.j0 k t119 t120 t121 t122 t124 bt126.1 bt128.1 true) else (if t124 < 0 then (bellwetherlaw02_KeyRound.j0 k t119 t120 t121 t122 t124 bt126.1 bt128.1 true) else (if bt126.1 < 0 then (bellwetherlaw02_KeyRound.j0 k t119 t120 t121 t122 t124 bt126.1 bt128.1 true) else (if bt126.1 ≥ 4611686018427387904 then (bellwetherlaw02_KeyRound.j0 k t119 t120 t121 t122 t124 bt126.1 bt128.1 true) else (if bt128.1 < 0 then (bellwetherlaw02_KeyRound.j0 k t119 t120 t121 t122 t124 bt126.1 bt128.1 true) else (bellwetherlaw02_KeyRound.j0 k t119 t120 t121 t122 t124 bt126.1 bt128.1 (decide (bt128.1 ≥ 4611686018427387904))))))))) else (bellwetherlaw02_KeyRound.j0 k t119 t120 t121 t122 t124 bt126.1 bt128.1 true)) else (bellwetherlaw02_KeyRound.j0 k t119 t120 t121 t122 t124 bt126.1 bt128.1 true)) else (bellwetherlaw02_KeyRound.j0 k t119 t120 t121 t122 t124 bt126.1 bt128.1 true)) else (bellwetherlaw02_KeyRound.j0 k t119 t120 t121 t122 t124 bt126.1 bt128.1 true)))) = some r := H
  have A8 := Aside0.mk A80
  clear A80
  replace H := Option.bind_eq_some_iff.mp H
  obtain ⟨⟨t126, t127⟩, A90, H⟩ := H
  replace H : ((key_Behind.f t121 t119).bind fun bt128 => (if t123 = 0 then (if t125 = 0 then (if t127 = 0 then (if bt128.2 = 0 then (if t122 < 0 then (bellwetherlaw02_KeyRound.j0 k t119 t120 t121 t122 t124 t126 bt128.1 true) else (if t122 ≥ 4611686018427387904 then (bellwetherlaw02_KeyRound.j0 k t119 t120 t121 t122 t124 t126 bt128.1 true) else (if t124 < 0 then (bellwetherlaw02_KeyRound.j0 k t119 t120 t121 t122 t124 t126 bt128.1 true) else (if t126 < 0 then (bellwetherlaw02_KeyRound.j0 k t119 t120 t121 t122 t124 t126 bt128.1 true) else (if t126 ≥ 4611686018427387904 then (bellwetherlaw02_KeyRound.j0 k t119 t120 t121 t122 t124 t126 bt128.1 true) else (if bt128.1 < 0 then (bellwetherlaw02_KeyRound.j0 k t119 t120 t121 t122 t124 t126 bt128.1 true) else (bellwetherlaw02_KeyRound.j0 k t119 t120 t121 t122 t124 t126 bt128.1 (decide (bt128.1 ≥ 4611686018427387904))))))))) else (bellwetherlaw02_KeyRound.j0 k t119 t120 t121 t122 t124 t126 bt128.1 true)) else (bellwetherlaw02_KeyRound.j0 k t119 t120 t121 t122 t124 t126 bt128.1 true)) else (bellwetherlaw02_KeyRound.j0 k t119 t120 t121 t122 t124 t126 bt128.1 true)) else (bellwetherlaw02_KeyRound.j0 k t119 t120 t121 t122 t124 t126 bt128.1 true))) = some r := H
  have A9 := Aside0.mk A90
  clear A90
  replace H := Option.bind_eq_some_iff.mp H
  obtain ⟨⟨t128, t129⟩, A100, H⟩ := H
  replace H : (if t123 = 0 then (if t125 = 0 then (if t127 = 0 then (if t129 = 0 then (if t122 < 0 then (bellwetherlaw02_KeyRound.j0 k t119 t120 t121 t122 t124 t126 t128 true) else (if t122 ≥ 4611686018427387904 then (bellwetherlaw02_KeyRound.j0 k t119 t120 t121 t122 t124 t126 t128 true) else (if t124 < 0 then (bellwetherlaw02_KeyRound.j0 k t119 t120 t121 t122 t124 t126 t128 true) else (if t126 < 0 then (bellwetherlaw02_KeyRound.j0 k t119 t120 t121 t122 t124 t126 t128 true) else (if t126 ≥ 4611686018427387904 then (bellwetherlaw02_KeyRound.j0 k t119 t120 t121 t122 t124 t126 t128 true) else (if t128 < 0 then (bellwetherlaw02_KeyRound.j0 k t119 t120 t121 t122 t124 t126 t128 true) else (bellwetherlaw02_KeyRound.j0 k t119 t120 t121 t122 t124 t126 t128 (decide (t128 ≥ 4611686018427387904))))))))) else (bellwetherlaw02_KeyRound.j0 k t119 t120 t121 t122 t124 t126 t128 true)) else (bellwetherlaw02_KeyRound.j0 k t119 t120 t121 t122 t124 t126 t128 true)) else (bellwetherlaw02_KeyRound.j0 k t119 t120 t121 t122 t124 t126 t128 true)) else (bellwetherlaw02_KeyRound.j0 k t119 t120 t121 t122 t124 t126 t128 true)) = some r := H
  have A10 := Aside0.mk A100
  clear A100
  have HC11 := Aside0.mk H
  clear H
  go_enter Try.func7, Try.ntmps7
  go_upto_region 6 with (first | ((with_reducible refine gate_callee (f := 27) rfl ?_); refine goesL_ (some 17) rfl rfl Try.func27 (by kernel_rfl) rfl #[.int .i64 a0] rfl (by (try simp only [List.map_toArray, List.map_cons, List.map_nil]); first | done | rfl | (simp only [List.length_drop, List.length_take]; rfl)) ?_; (with_reducible refine (bellwetherlaw02_Some.calls a0 t119 _ A4.out).mono ?_); rintro e w' ⟨rfl, ⟨nd, rfl⟩⟩; refine ⟨_, rfl, ?_⟩) | ((with_reducible refine gate_callee (f := 27) rfl ?_); refine goesL_ (some 19) rfl rfl Try.func27 (by kernel_rfl) rfl #[.int .i64 a1] rfl (by (try simp only [List.map_toArray, List.map_cons, List.map_nil]); first | done | rfl | (simp only [List.length_drop, List.length_take]; rfl)) ?_; (with_reducible refine (bellwetherlaw02_Some.calls a1 t120 _ A5.out).mono ?_); rintro e w' ⟨rfl, ⟨nd, rfl⟩⟩; refine ⟨_, rfl, ?_⟩) | ((with_reducible refine gate_callee (f := 27) rfl ?_); refine goesL_ (some 21) rfl rfl Try.func27 (by kernel_rfl) rfl #[.int .i64 a2] rfl (by (try simp only [List.map_toArray, List.map_cons, List.map_nil]); first | done | rfl | (simp only [List.length_drop, List.length_take]; rfl)) ?_; (with_reducible refine (bellwetherlaw02_Some.calls a2 t121 _ A6.out).mono ?_); rintro e w' ⟨rfl, ⟨nd, rfl⟩⟩; refine ⟨_, rfl, ?_⟩) | ((with_reducible refine gate_callee (f := 19) rfl ?_); refine goesL_ (some 25) rfl rfl Try.func19 (by kernel_rfl) rfl #[.int .i64 t119, .int .i64 t120] rfl (by (try simp only [List.map_toArray, List.map_cons, List.map_nil]); first | done | rfl | (simp only [List.length_drop, List.length_take]; rfl)) ?_; (with_reducible refine (key_Behind.calls t119 t120 t122 t123 _ A7.out).mono ?_); rintro e w' ⟨rfl, ⟨nd, rfl⟩⟩; refine ⟨_, rfl, ?_⟩) | ((with_reducible refine gate_callee (f := 19) rfl ?_); refine goesL_ (some 31) rfl rfl Try.func19 (by kernel_rfl) rfl #[.int .i64 t120, .int .i64 t119] rfl (by (try simp only [List.map_toArray, List.map_cons, List.map_nil]); first | done | rfl | (simp only [List.length_drop, List.length_take]; rfl)) ?_; (with_reducible refine (key_Behind.calls t120 t119 t124 t125 _ A8.out).mono ?_); rintro e w' ⟨rfl, ⟨nd, rfl⟩⟩; refine ⟨_, rfl, ?_⟩) | ((with_reducible refine gate_callee (f := 19) rfl ?_); refine goesL_ (some 37) rfl rfl Try.func19 (by kernel_rfl) rfl #[.int .i64 t120, .int .i64 t121] rfl (by (try simp only [List.map_toArray, List.map_cons, List.map_nil]); first | done | rfl | (simp only [List.length_drop, List.length_take]; rfl)) ?_; (with_reducible refine (key_Behind.calls t120 t121 t126 t127 _ A9.out).mono ?_); rintro e w' ⟨rfl, ⟨nd, rfl⟩⟩; refine ⟨_, rfl, ?_⟩) | ((with_reducible refine gate_callee (f := 19) rfl ?_); refine goesL_ (some 43) rfl rfl Try.func19 (by kernel_rfl) rfl #[.int .i64 t121, .int .i64 t119] rfl (by (try simp only [List.map_toArray, List.map_cons, List.map_nil]); first | done | rfl | (simp only [List.length_drop, List.length_take]; rfl)) ?_; (with_reducible refine (key_Behind.calls t121 t119 t128 t129 _ A10.out).mono ?_); rintro e w' ⟨rfl, ⟨nd, rfl⟩⟩; refine ⟨_, rfl, ?_⟩))
  (try simp only [Act.put, List.setIfInBounds_toArray, List.set_cons_zero, List.set_cons_succ])
  go_cut [87] (fun v87 wc => ∃ (kq : Nat) (x87_10 : Bool), v87 = .bool x87_10 ∧ Aside0 (bellwetherlaw02_KeyRound.j0 kq t119 t120 t121 t122 t124 t126 t128 x87_10 = some r) ∧ Aside0 (kq ≤ k) ∧ Drawn0 w wc)
  case first =>
    have H := HC11.out
    clear HC11
    by_cases c12 : t123 = 0
    · rw [if_pos c12] at H
      have c12b0 : (t123 == 0) = true := beq_iff_eq.mpr c12
      have c12b1 : (t123 != 0) = false := bne_eq_false_iff_eq.mpr c12
      clear c12
      (first | rw [c12b0] | (simp only [i64_w, i32_w]; rw [c12b0]) | skip)
      by_cases c13 : t125 = 0
      · rw [if_pos c13] at H
        have c13b0 : (t125 == 0) = true := beq_iff_eq.mpr c13
        have c13b1 : (t125 != 0) = false := bne_eq_false_iff_eq.mpr c13
        clear c13
        by_cases c14 : t127 = 0
        · rw [if_pos c14] at H
          have c14b0 : (t127 == 0) = true := beq_iff_eq.mpr c14
          have c14b1 : (t127 != 0) = false := bne_eq_false_iff_eq.mpr c14
          clear c14
          by_cases c15 : t129 = 0
          · rw [if_pos c15] at H
            have c15b0 : (t129 == 0) = true := beq_iff_eq.mpr c15
            have c15b1 : (t129 != 0) = false := bne_eq_false_iff_eq.mpr c15
            clear c15
            by_cases c16 : t122 < 0
            · rw [if_pos c16] at H
              have c16b0 : decide (t122 < 0) = true := decide_eq_true c16
              clear c16
              have H' := Aside0.mk H
              clear H
              go_wp2
              go_meet
              case rel => exact ⟨_, (true), (by first | rfl | (simp; done) | (simp [*]; done)), H', ⟨by first | omega | exact Nat.le_refl _⟩, by repeat (first | exact Drawn0.refl _ | apply Drawn0.step)⟩
            · rw [if_neg c16] at H
              have c16b0 : decide (t122 < 0) = false := decide_eq_false c16
              clear c16
              by_cases c17 : t122 ≥ 4611686018427387904
              · rw [if_pos c17] at H
                have c17b0 : decide (4611686018427387904 ≤ t122) = true := decide_eq_true c17
                clear c17
                have H' := Aside0.mk H
                clear H
                go_wp2
                go_meet
                case rel => exact ⟨_, (true), (by first | rfl | (simp; done) | (simp [*]; done)), H', ⟨by first | omega | exact Nat.le_refl _⟩, by repeat (first | exact Drawn0.refl _ | apply Drawn0.step)⟩
              · rw [if_neg c17] at H
                have c17b0 : decide (4611686018427387904 ≤ t122) = false := decide_eq_false c17
                clear c17
                by_cases c18 : t124 < 0
                · rw [if_pos c18] at H
                  have c18b0 : decide (t124 < 0) = true := decide_eq_true c18
                  clear c18
                  have H' := Aside0.mk H
                  clear H
                  go_wp2
                  go_meet
                  case rel => exact ⟨_, (true), (by first | rfl | (simp; done) | (simp [*]; done)), H', ⟨by first | omega | exact Nat.le_refl _⟩, by repeat (first | exact Drawn0.refl _ | apply Drawn0.step)⟩
                · rw [if_neg c18] at H
                  have c18b0 : decide (t124 < 0) = false := decide_eq_false c18
                  clear c18
                  by_cases c19 : t126 < 0
                  · rw [if_pos c19] at H
                    have c19b0 : decide (t126 < 0) = true := decide_eq_true c19
                    clear c19
                    have H' := Aside0.mk H
                    clear H
                    go_wp2
                    go_meet
                    case rel => exact ⟨_, (true), (by first | rfl | (simp; done) | (simp [*]; done)), H', ⟨by first | omega | exact Nat.le_refl _⟩, by repeat (first | exact Drawn0.refl _ | apply Drawn0.step)⟩
                  · rw [if_neg c19] at H
                    have c19b0 : decide (t126 < 0) = false := decide_eq_false c19
                    clear c19
                    by_cases c20 : t126 ≥ 4611686018427387904
                    · rw [if_pos c20] at H
                      have c20b0 : decide (4611686018427387904 ≤ t126) = true := decide_eq_true c20
                      clear c20
                      have H' := Aside0.mk H
                      clear H
                      go_wp2
                      go_meet
                      case rel => exact ⟨_, (true), (by first | rfl | (simp; done) | (simp [*]; done)), H', ⟨by first | omega | exact Nat.le_refl _⟩, by repeat (first | exact Drawn0.refl _ | apply Drawn0.step)⟩
                    · rw [if_neg c20] at H
                      have c20b0 : decide (4611686018427387904 ≤ t126) = false := decide_eq_false c20
                      clear c20
                      by_cases c21 : t128 < 0
                      · rw [if_pos c21] at H
                        have c21b0 : decide (t128 < 0) = true := decide_eq_true c21
                        clear c21
                        have H' := Aside0.mk H
                        clear H
                        go_wp2
                        go_meet
                        case rel => exact ⟨_, (true), (by first | rfl | (simp; done) | (simp [*]; done)), H', ⟨by first | omega | exact Nat.le_refl _⟩, by repeat (first | exact Drawn0.refl _ | apply Drawn0.step)⟩
                      · rw [if_neg c21] at H
                        have c21b0 : decide (t128 < 0) = false := decide_eq_false c21
                        clear c21
                        have H' := Aside0.mk H
                        clear H
                        go_wp2
                        go_meet
                        case rel => exact ⟨_, (decide (t128 ≥ 4611686018427387904)), (by first | rfl | (simp; done) | (simp [*]; done)), H', ⟨by first | omega | exact Nat.le_refl _⟩, by repeat (first | exact Drawn0.refl _ | apply Drawn0.step)⟩
          · rw [if_neg c15] at H
            have c15b0 : (t129 == 0) = false := beq_eq_false_iff_ne.mpr c15
            have c15b1 : (t129 != 0) = true := bne_iff_ne.mpr c15
            have H' := Aside0.mk H
            clear H
            go_wp2
            go_meet
            case rel => exact ⟨_, (true), (by first | rfl | (simp; done) | (simp [*]; done)), H', ⟨by first | omega | exact Nat.le_refl _⟩, by repeat (first | exact Drawn0.refl _ | apply Drawn0.step)⟩
        · rw [if_neg c14] at H
          have c14b0 : (t127 == 0) = false := beq_eq_false_iff_ne.mpr c14
          have c14b1 : (t127 != 0) = true := bne_iff_ne.mpr c14
          have H' := Aside0.mk H
          clear H
          go_wp2
          go_meet
          case rel => exact ⟨_, (true), (by first | rfl | (simp; done) | (simp [*]; done)), H', ⟨by first | omega | exact Nat.le_refl _⟩, by repeat (first | exact Drawn0.refl _ | apply Drawn0.step)⟩
      · rw [if_neg c13] at H
        have c13b0 : (t125 == 0) = false := beq_eq_false_iff_ne.mpr c13
        have c13b1 : (t125 != 0) = true := bne_iff_ne.mpr c13
        have H' := Aside0.mk H
        clear H
        go_wp2
        go_meet
        case rel => exact ⟨_, (true), (by first | rfl | (simp; done) | (simp [*]; done)), H', ⟨by first | omega | exact Nat.le_refl _⟩, by repeat (first | exact Drawn0.refl _ | apply Drawn0.step)⟩
    · rw [if_neg c12] at H
      have c12b0 : (t123 == 0) = false := beq_eq_false_iff_ne.mpr c12
      have c12b1 : (t123 != 0) = true := bne_iff_ne.mpr c12
      (first | rw [c12b0] | (simp only [i64_w, i32_w]; rw [c12b0]) | skip)
      have H' := Aside0.mk H
      clear H
      go_wp2
      go_meet
      case rel => exact ⟨_, (true), (by first | rfl | (simp; done) | (simp [*]; done)), H', ⟨by first | omega | exact Nat.le_refl _⟩, by repeat (first | exact Drawn0.refl _ | apply Drawn0.step)⟩
  case rest =>
    clear HC11
    try clear c1
    try clear c2
    try clear p2
    try clear c7
    try clear c12
    try clear c12b0
    try clear c12b1
    try clear c13
    try clear c13b0
    try clear c13b1
    try clear c14
    try clear c14b0
    try clear c14b1
    try clear c15
    try clear c15b0
    try clear c15b1
    try clear c16
    try clear c16b0
    try clear c17
    try clear c17b0
    try clear c18
    try clear c18b0
    try clear c19
    try clear c19b0
    try clear c20
    try clear c20b0
    try clear c21
    try clear c21b0
    obtain ⟨kq, x87_10, rfl, HA, HJ10, ⟨mc10, rfl⟩⟩ := hcut
    cases kq with
    | zero => exact absurd HA.out (by simp [bellwetherlaw02_KeyRound.j0])
    | succ kj10 =>
      have H := HA.out
      clear HA
      simp only [bellwetherlaw02_KeyRound.j0] at H
      by_cases c22 : x87_10 = true
      · subst c22
        have H1 : (some false) = some r := by rw [if_pos rfl] at H; exact H
        clear H
        have H := H1
        clear H1
        obtain rfl := Option.some.inj H
        go_wp2
        go_ret
        exact ⟨by first | rfl | (simp; done) | (simp [*]; done), by repeat (first | exact Drawn0.refl _ | apply Drawn0.step)⟩
      · replace c22 := Bool.eq_false_iff.mpr c22
        subst c22
        have H1 : (if t119 = t120 then (if t122 = 0 then (if t124 = 0 then ((bellwetherlaw02_wakes.f kj10).bind fun t130 => (some t130)) else (some false)) else (some false)) else (if t122 = (wrap64 (4611686018427387904 - t124)) then (if t126 < (wrap64 (4611686018427387904 - t122)) then (if t128 = (wrap64 ((wrap64 (4611686018427387904 - t122)) - t126)) then ((key_Between.f kj10 t119 t120 t121).bind fun t131 => (if t131 = true then ((bellwetherlaw02_wakes.f kj10).bind fun t132 => (some t132)) else (some false))) else (some false)) else (if t126 = (wrap64 (4611686018427387904 - t122)) then (if t128 = 0 then ((bellwetherlaw02_wakes.f kj10).bind fun t133 => (some t133)) else (if t126 > (wrap64 (4611686018427387904 - t122)) then (if t128 = (wrap64 (4611686018427387904 - (wrap64 (t126 - (wrap64 (4611686018427387904 - t122)))))) then ((bellwetherlaw02_wakes.f kj10).bind fun t134 => (some t134)) else (some false)) else (some false))) else (if t126 > (wrap64 (4611686018427387904 - t122)) then (if t128 = (wrap64 (4611686018427387904 - (wrap64 (t126 - (wrap64 (4611686018427387904 - t122)))))) then ((bellwetherlaw02_wakes.f kj10).bind fun t135 => (some t135)) else (some false)) else (some false)))) else (some false))) = some r := by rw [if_neg (show ¬ (false = true) by decide)] at H; exact H
        clear H
        have H := H1
        clear H1
        by_cases c23 : t119 = t120
        · rw [if_pos c23] at H
          have c23b0 : (t119 == t120) = true := beq_iff_eq.mpr c23
          have c23b1 : (t119 != t120) = false := bne_eq_false_iff_eq.mpr c23
          clear c23
          by_cases c24 : t122 = 0
          · rw [if_pos c24] at H
            have c24b0 : (t122 == 0) = true := beq_iff_eq.mpr c24
            have c24b1 : (t122 != 0) = false := bne_eq_false_iff_eq.mpr c24
            clear c24
            by_cases c25 : t124 = 0
            · rw [if_pos c25] at H
              have c25b0 : (t124 == 0) = true := beq_iff_eq.mpr c25
              have c25b1 : (t124 != 0) = false := bne_eq_false_iff_eq.mpr c25
              clear c25
              replace H := Option.bind_eq_some_iff.mp H
              obtain ⟨t130, A260, H⟩ := H
              replace H : (some t130) = some r := H
              have A26 := Aside0.mk A260
              clear A260
              obtain rfl := Option.some.inj H
              go_wp2_with (first | (go_at_call 26; (with_reducible refine (bellwetherlaw02_wakes.calls kj10  t130 _ A26.out).mono ?_); rintro e w' ⟨rfl, ⟨nd, rfl⟩⟩))
              go_ret
              exact ⟨by first | rfl | (simp; done) | (simp [*]; done), by repeat (first | exact Drawn0.refl _ | apply Drawn0.step)⟩
            · rw [if_neg c25] at H
              have c25b0 : (t124 == 0) = false := beq_eq_false_iff_ne.mpr c25
              have c25b1 : (t124 != 0) = true := bne_iff_ne.mpr c25
              obtain rfl := Option.some.inj H
              go_wp2
              go_ret
              exact ⟨by first | rfl | (simp; done) | (simp [*]; done), by repeat (first | exact Drawn0.refl _ | apply Drawn0.step)⟩
          · rw [if_neg c24] at H
            have c24b0 : (t122 == 0) = false := beq_eq_false_iff_ne.mpr c24
            have c24b1 : (t122 != 0) = true := bne_iff_ne.mpr c24
            obtain rfl := Option.some.inj H
            go_wp2
            go_ret
            exact ⟨by first | rfl | (simp; done) | (simp [*]; done), by repeat (first | exact Drawn0.refl _ | apply Drawn0.step)⟩
        · rw [if_neg c23] at H
          have c23b0 : (t119 == t120) = false := beq_eq_false_iff_ne.mpr c23
          have c23b1 : (t119 != t120) = true := bne_iff_ne.mpr c23
          by_cases c27 : t122 = (wrap64 (4611686018427387904 - t124))
          · rw [if_pos c27] at H
            have c27b0 : (t122 == (wrap64 (4611686018427387904 - t124))) = true := beq_iff_eq.mpr c27
            have c27b1 : (t122 != (wrap64 (4611686018427387904 - t124))) = false := bne_eq_false_iff_eq.mpr c27
            clear c27
            by_cases c28 : t126 < (wrap64 (4611686018427387904 - t122))
            · rw [if_pos c28] at H
              have c28b0 : decide (t126 < (wrap64 (4611686018427387904 - t122))) = true := decide_eq_true c28
              clear c28
              by_cases c29 : t128 = (wrap64 ((wrap64 (4611686018427387904 - t122)) - t126))
              · rw [if_pos c29] at H
                have c29b0 : (t128 == (wrap64 ((wrap64 (4611686018427387904 - t122)) - t126))) = true := beq_iff_eq.mpr c29
                have c29b1 : (t128 != (wrap64 ((wrap64 (4611686018427387904 - t122)) - t126))) = false := bne_eq_false_iff_eq.mpr c29
                clear c29
                replace H := Option.bind_eq_some_iff.mp H
                obtain ⟨t131, A300, H⟩ := H
                replace H : (if t131 = true then ((bellwetherlaw02_wakes.f kj10).bind fun t132 => (some t132)) else (some false)) = some r := H
                have A30 := Aside0.mk A300
                clear A300
                by_cases c31 : t131 = true
                · subst c31
                  have H1 : ((bellwetherlaw02_wakes.f kj10).bind fun t132 => (some t132)) = some r := by rw [if_pos rfl] at H; exact H
                  clear H
                  have H := H1
                  clear H1
                  replace H := Option.bind_eq_some_iff.mp H
                  obtain ⟨t132, A320, H⟩ := H
                  replace H : (some t132) = some r := H
                  have A32 := Aside0.mk A320
                  clear A320
                  obtain rfl := Option.some.inj H
                  go_wp2_with (first | (go_at_call 21; (with_reducible refine (key_Between.calls kj10 t119 t120 t121 true _ A30.out).mono ?_); rintro e w' ⟨rfl, ⟨nd, rfl⟩⟩) | (go_at_call 26; (with_reducible refine (bellwetherlaw02_wakes.calls kj10  t132 _ A32.out).mono ?_); rintro e w' ⟨rfl, ⟨nd, rfl⟩⟩))
                  go_ret
                  exact ⟨by first | rfl | (simp; done) | (simp [*]; done), by repeat (first | exact Drawn0.refl _ | apply Drawn0.step)⟩
                · replace c31 := Bool.eq_false_iff.mpr c31
                  subst c31
                  have H1 : (some false) = some r := by rw [if_neg (show ¬ (false = true) by decide)] at H; exact H
                  clear H
                  have H := H1
                  clear H1
                  obtain rfl := Option.some.inj H
                  go_wp2_with (first | (go_at_call 21; (with_reducible refine (key_Between.calls kj10 t119 t120 t121 false _ A30.out).mono ?_); rintro e w' ⟨rfl, ⟨nd, rfl⟩⟩))
                  go_ret
                  exact ⟨by first | rfl | (simp; done) | (simp [*]; done), by repeat (first | exact Drawn0.refl _ | apply Drawn0.step)⟩
              · rw [if_neg c29] at H
                have c29b0 : (t128 == (wrap64 ((wrap64 (4611686018427387904 - t122)) - t126))) = false := beq_eq_false_iff_ne.mpr c29
                have c29b1 : (t128 != (wrap64 ((wrap64 (4611686018427387904 - t122)) - t126))) = true := bne_iff_ne.mpr c29
                obtain rfl := Option.some.inj H
                go_wp2
                go_ret
                exact ⟨by first | rfl | (simp; done) | (simp [*]; done), by repeat (first | exact Drawn0.refl _ | apply Drawn0.step)⟩
            · rw [if_neg c28] at H
              have c28b0 : decide (t126 < (wrap64 (4611686018427387904 - t122))) = false := decide_eq_false c28
              clear c28
              by_cases c33 : t126 = (wrap64 (4611686018427387904 - t122))
              · rw [if_pos c33] at H
                have c33b0 : (t126 == (wrap64 (4611686018427387904 - t122))) = true := beq_iff_eq.mpr c33
                have c33b1 : (t126 != (wrap64 (4611686018427387904 - t122))) = false := bne_eq_false_iff_eq.mpr c33
                clear c33
                by_cases c34 : t128 = 0
                · rw [if_pos c34] at H
                  have c34b0 : (t128 == 0) = true := beq_iff_eq.mpr c34
                  have c34b1 : (t128 != 0) = false := bne_eq_false_iff_eq.mpr c34
                  clear c34
                  replace H := Option.bind_eq_some_iff.mp H
                  obtain ⟨t133, A350, H⟩ := H
                  replace H : (some t133) = some r := H
                  have A35 := Aside0.mk A350
                  clear A350
                  obtain rfl := Option.some.inj H
                  go_wp2_with (first | (go_at_call 26; (with_reducible refine (bellwetherlaw02_wakes.calls kj10  t133 _ A35.out).mono ?_); rintro e w' ⟨rfl, ⟨nd, rfl⟩⟩))
                  go_ret
                  exact ⟨by first | rfl | (simp; done) | (simp [*]; done), by repeat (first | exact Drawn0.refl _ | apply Drawn0.step)⟩
                · rw [if_neg c34] at H
                  have c34b0 : (t128 == 0) = false := beq_eq_false_iff_ne.mpr c34
                  have c34b1 : (t128 != 0) = true := bne_iff_ne.mpr c34
                  by_cases c36 : t126 > (wrap64 (4611686018427387904 - t122))
                  · rw [if_pos c36] at H
                    have c36b0 : decide ((wrap64 (4611686018427387904 - t122)) < t126) = true := decide_eq_true c36
                    clear c36
                    by_cases c37 : t128 = (wrap64 (4611686018427387904 - (wrap64 (t126 - (wrap64 (4611686018427387904 - t122))))))
                    · rw [if_pos c37] at H
                      have c37b0 : (t128 == (wrap64 (4611686018427387904 - (wrap64 (t126 - (wrap64 (4611686018427387904 - t122))))))) = true := beq_iff_eq.mpr c37
                      have c37b1 : (t128 != (wrap64 (4611686018427387904 - (wrap64 (t126 - (wrap64 (4611686018427387904 - t122))))))) = false := bne_eq_false_iff_eq.mpr c37
                      clear c37
                      replace H := Option.bind_eq_some_iff.mp H
                      obtain ⟨t134, A380, H⟩ := H
                      replace H : (some t134) = some r := H
                      have A38 := Aside0.mk A380
                      clear A380
                      obtain rfl := Option.some.inj H
                      go_wp2_with (first | (go_at_call 26; (with_reducible refine (bellwetherlaw02_wakes.calls kj10  t134 _ A38.out).mono ?_); rintro e w' ⟨rfl, ⟨nd, rfl⟩⟩))
                      go_ret
                      exact ⟨by first | rfl | (simp; done) | (simp [*]; done), by repeat (first | exact Drawn0.refl _ | apply Drawn0.step)⟩
                    · rw [if_neg c37] at H
                      have c37b0 : (t128 == (wrap64 (4611686018427387904 - (wrap64 (t126 - (wrap64 (4611686018427387904 - t122))))))) = false := beq_eq_false_iff_ne.mpr c37
                      have c37b1 : (t128 != (wrap64 (4611686018427387904 - (wrap64 (t126 - (wrap64 (4611686018427387904 - t122))))))) = true := bne_iff_ne.mpr c37
                      obtain rfl := Option.some.inj H
                      go_wp2
                      go_ret
                      exact ⟨by first | rfl | (simp; done) | (simp [*]; done), by repeat (first | exact Drawn0.refl _ | apply Drawn0.step)⟩
                  · rw [if_neg c36] at H
                    have c36b0 : decide ((wrap64 (4611686018427387904 - t122)) < t126) = false := decide_eq_false c36
                    clear c36
                    obtain rfl := Option.some.inj H
                    go_wp2
                    go_ret
                    exact ⟨by first | rfl | (simp; done) | (simp [*]; done), by repeat (first | exact Drawn0.refl _ | apply Drawn0.step)⟩
              · rw [if_neg c33] at H
                have c33b0 : (t126 == (wrap64 (4611686018427387904 - t122))) = false := beq_eq_false_iff_ne.mpr c33
                have c33b1 : (t126 != (wrap64 (4611686018427387904 - t122))) = true := bne_iff_ne.mpr c33
                by_cases c39 : t126 > (wrap64 (4611686018427387904 - t122))
                · rw [if_pos c39] at H
                  have c39b0 : decide ((wrap64 (4611686018427387904 - t122)) < t126) = true := decide_eq_true c39
                  clear c39
                  by_cases c40 : t128 = (wrap64 (4611686018427387904 - (wrap64 (t126 - (wrap64 (4611686018427387904 - t122))))))
                  · rw [if_pos c40] at H
                    have c40b0 : (t128 == (wrap64 (4611686018427387904 - (wrap64 (t126 - (wrap64 (4611686018427387904 - t122))))))) = true := beq_iff_eq.mpr c40
                    have c40b1 : (t128 != (wrap64 (4611686018427387904 - (wrap64 (t126 - (wrap64 (4611686018427387904 - t122))))))) = false := bne_eq_false_iff_eq.mpr c40
                    clear c40
                    replace H := Option.bind_eq_some_iff.mp H
                    obtain ⟨t135, A410, H⟩ := H
                    replace H : (some t135) = some r := H
                    have A41 := Aside0.mk A410
                    clear A410
                    obtain rfl := Option.some.inj H
                    go_wp2_with (first | (go_at_call 26; (with_reducible refine (bellwetherlaw02_wakes.calls kj10  t135 _ A41.out).mono ?_); rintro e w' ⟨rfl, ⟨nd, rfl⟩⟩))
                    go_ret
                    exact ⟨by first | rfl | (simp; done) | (simp [*]; done), by repeat (first | exact Drawn0.refl _ | apply Drawn0.step)⟩
                  · rw [if_neg c40] at H
                    have c40b0 : (t128 == (wrap64 (4611686018427387904 - (wrap64 (t126 - (wrap64 (4611686018427387904 - t122))))))) = false := beq_eq_false_iff_ne.mpr c40
                    have c40b1 : (t128 != (wrap64 (4611686018427387904 - (wrap64 (t126 - (wrap64 (4611686018427387904 - t122))))))) = true := bne_iff_ne.mpr c40
                    obtain rfl := Option.some.inj H
                    go_wp2
                    go_ret
                    exact ⟨by first | rfl | (simp; done) | (simp [*]; done), by repeat (first | exact Drawn0.refl _ | apply Drawn0.step)⟩
                · rw [if_neg c39] at H
                  have c39b0 : decide ((wrap64 (4611686018427387904 - t122)) < t126) = false := decide_eq_false c39
                  clear c39
                  obtain rfl := Option.some.inj H
                  go_wp2
                  go_ret
                  exact ⟨by first | rfl | (simp; done) | (simp [*]; done), by repeat (first | exact Drawn0.refl _ | apply Drawn0.step)⟩
          · rw [if_neg c27] at H
            have c27b0 : (t122 == (wrap64 (4611686018427387904 - t124))) = false := beq_eq_false_iff_ne.mpr c27
            have c27b1 : (t122 != (wrap64 (4611686018427387904 - t124))) = true := bne_iff_ne.mpr c27
            obtain rfl := Option.some.inj H
            go_wp2
            go_ret
            exact ⟨by first | rfl | (simp; done) | (simp [*]; done), by repeat (first | exact Drawn0.refl _ | apply Drawn0.step)⟩

/-- THE ONE PURE STATEMENT of bellwetherlaw02_KeyRound: yours. -/
def bellwetherlaw02_KeyRound.Pure : Prop := ∀ (a0 : Int) (a1 : Int) (a2 : Int), (Lit.int .i64 a0).wf = true → (Lit.int .i64 a1).wf = true → (Lit.int .i64 a2).wf = true → ∃ k, bellwetherlaw02_KeyRound.f k a0 a1 a2 = some true
theorem bellwetherlaw02_KeyRound.walk (P : bellwetherlaw02_KeyRound.Pure) (a0 : Int) (a1 : Int) (a2 : Int) (w : World) (w0 : (Lit.int .i64 a0).wf = true) (w1 : (Lit.int .i64 a1).wf = true) (w2 : (Lit.int .i64 a2).wf = true) :
    Calls Try.prog 7 #[.int .i64 a0, .int .i64 a1, .int .i64 a2] w fun e w' => e = .returned (.bool true) ∧ Below w.heap.size w w' := by
  obtain ⟨k, h⟩ := P a0 a1 a2 w0 w1 w2
  refine (bellwetherlaw02_KeyRound.calls k a0 a1 a2 true w h).mono ?_
  rintro e w' ⟨rfl, hd⟩
  exact ⟨rfl, hd.below⟩

end Go.Proofs.Ytebfhfahkigdlaa.PKeyRound
