/- Roots, by the kernel's reckoning: primes 32 to 63. No condition. -/
import Derived.Test.YteeibpeefhaoiaaRefF
namespace Go.Proofs.Yteeibpeefhaoiaa
open Go.RowKit Go.Proofs.YteeibpeefhaoiaaW.PrintWords
set_option linter.unusedVariables false


theorem g3_4 : ∀ i : Fin 8, gB (primes.getD (32 + i.val) 0 : Nat) 3 36 0 = some (rts3.getD (32 + i.val) 0) := by decide +kernel


theorem g3_5 : ∀ i : Fin 8, gB (primes.getD (40 + i.val) 0 : Nat) 3 36 0 = some (rts3.getD (40 + i.val) 0) := by decide +kernel


theorem g3_6 : ∀ i : Fin 8, gB (primes.getD (48 + i.val) 0 : Nat) 3 36 0 = some (rts3.getD (48 + i.val) 0) := by decide +kernel


theorem g3_7 : ∀ i : Fin 8, gB (primes.getD (56 + i.val) 0 : Nat) 3 36 0 = some (rts3.getD (56 + i.val) 0) := by decide +kernel
end Go.Proofs.Yteeibpeefhaoiaa
