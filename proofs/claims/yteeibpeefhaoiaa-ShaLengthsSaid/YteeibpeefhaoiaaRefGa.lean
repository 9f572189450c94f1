/- Roots, by the kernel's reckoning: primes 0 to 31. No condition. -/
import Derived.Test.YteeibpeefhaoiaaRefF
namespace Go.Proofs.Yteeibpeefhaoiaa
open Go.RowKit Go.Proofs.YteeibpeefhaoiaaW.PrintWords
set_option linter.unusedVariables false


theorem g3_0 : ∀ i : Fin 8, gB (primes.getD (0 + i.val) 0 : Nat) 3 36 0 = some (rts3.getD (0 + i.val) 0) := by decide +kernel
theorem g2_0 : ∀ i : Fin 8, gB (primes.getD (i.val) 0 : Nat) 2 36 0 = some (rts2.getD (i.val) 0) := by decide +kernel


theorem g3_1 : ∀ i : Fin 8, gB (primes.getD (8 + i.val) 0 : Nat) 3 36 0 = some (rts3.getD (8 + i.val) 0) := by decide +kernel


theorem g3_2 : ∀ i : Fin 8, gB (primes.getD (16 + i.val) 0 : Nat) 3 36 0 = some (rts3.getD (16 + i.val) 0) := by decide +kernel


theorem g3_3 : ∀ i : Fin 8, gB (primes.getD (24 + i.val) 0 : Nat) 3 36 0 = some (rts3.getD (24 + i.val) 0) := by decide +kernel
end Go.Proofs.Yteeibpeefhaoiaa
