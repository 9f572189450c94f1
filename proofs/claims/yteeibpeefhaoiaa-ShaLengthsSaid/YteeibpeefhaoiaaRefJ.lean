/- bellwetherref01.roots: the first eight square roots, the first sixty-four cube roots: the sum's first words, the turns' table. No condition. -/
import Derived.Test.YteeibpeefhaoiaaRefD
import Derived.Test.YteeibpeefhaoiaaShaE
import Derived.Test.YteeibpeefhaoiaaRefGa
import Derived.Test.YteeibpeefhaoiaaRefGb
namespace Go.Proofs.Yteeibpeefhaoiaa
open Go.RowKit Go.Proofs.YteeibpeefhaoiaaW.PrintWords
set_option linter.unusedVariables false

theorem cnt_all : ∀ p : Nat, p < 312 → 2 ≤ p → cnt p < 64 ∧ (pb (p : Int) 2 (p - 2) = true → primes.getD (cnt p) 0 = p) := by decide +kernel
theorem tab_all : ∀ i : Nat, i < 64 → ktab.take i ++ [rts3.getD i 0 % 4294967296] = ktab.take (i + 1) := by decide +kernel
theorem cnt_8 : ∀ p : Nat, p < 20 → 2 ≤ p → cnt p < 8 := by decide +kernel
theorem tab_8 : ∀ i : Nat, i < 8 → htab.take i ++ [rts2.getD i 0 % 4294967296] = htab.take (i + 1) := by decide +kernel
theorem g3_all (i : Nat) (h : i < 64) : gB (primes.getD i 0 : Nat) 3 36 0 = some (rts3.getD i 0) := by
  have hq : i / 8 = 0 ∨ i / 8 = 1 ∨ i / 8 = 2 ∨ i / 8 = 3 ∨ i / 8 = 4 ∨ i / 8 = 5 ∨ i / 8 = 6 ∨ i / 8 = 7 := by omega
  have hr : i % 8 < 8 := by omega
  rcases hq with e | e | e | e | e | e | e | e
  · have := g3_0 ⟨i % 8, hr⟩; simp only at this; rwa [show 0 + i % 8 = i by omega] at this
  · have := g3_1 ⟨i % 8, hr⟩; simp only at this; rwa [show 8 + i % 8 = i by omega] at this
  · have := g3_2 ⟨i % 8, hr⟩; simp only at this; rwa [show 16 + i % 8 = i by omega] at this
  · have := g3_3 ⟨i % 8, hr⟩; simp only at this; rwa [show 24 + i % 8 = i by omega] at this
  · have := g3_4 ⟨i % 8, hr⟩; simp only at this; rwa [show 32 + i % 8 = i by omega] at this
  · have := g3_5 ⟨i % 8, hr⟩; simp only at this; rwa [show 40 + i % 8 = i by omega] at this
  · have := g3_6 ⟨i % 8, hr⟩; simp only at this; rwa [show 48 + i % 8 = i by omega] at this
  · have := g3_7 ⟨i % 8, hr⟩; simp only at this; rwa [show 56 + i % 8 = i by omega] at this

theorem ends64 : Ends 64 3 [] 2 ktab := by
  have h := ends_all 64 3 rts3 ktab 312 (by omega) (by decide) (by decide) (by decide +kernel) (fun p hp h2 => ?_) 310 2 (by omega) (by omega)
  · exact h
  · obtain ⟨hc, hb⟩ := cnt_all p hp h2
    refine ⟨hc, fun hpb => ⟨?_, tab_all _ hc⟩⟩
    have := g3_all (cnt p) hc
    rwa [hb hpb] at this
theorem ends8 : Ends 8 2 [] 2 htab := by
  have h := ends_all 8 2 rts2 htab 20 (by omega) (by decide) (by decide) (by decide +kernel) (fun p hp h2 => ?_) 18 2 (by omega) (by omega)
  · exact h
  · have hc := cnt_8 p hp h2
    obtain ⟨_, hb⟩ := cnt_all p (by omega) h2
    refine ⟨hc, fun hpb => ⟨?_, tab_8 _ hc⟩⟩
    have := g2_0 ⟨cnt p, hc⟩
    rwa [hb hpb] at this

theorem roots8_ (w : World) : Calls Try.prog 50 #[.int .i64 8, .int .i64 2] w (RetOw .u32 52 htab w) := by
  obtain ⟨K, h⟩ := ends8
  refine (PShaExact.bellwetherref01_roots.calls K 8 2 htab w h).mono ?_
  rintro e w' ⟨v0, rfl, hr, hb⟩
  exact ⟨v0, rfl, Ow.of_R hr, ⟨hb⟩⟩
theorem roots64_ (w : World) : Calls Try.prog 50 #[.int .i64 64, .int .i64 3] w (RetOw .u32 52 ktab w) := by
  obtain ⟨K, h⟩ := ends64
  refine (PShaExact.bellwetherref01_roots.calls K 64 3 ktab w h).mono ?_
  rintro e w' ⟨v0, rfl, hr, hb⟩
  exact ⟨v0, rfl, Ow.of_R hr, ⟨hb⟩⟩

end Go.Proofs.Yteeibpeefhaoiaa
