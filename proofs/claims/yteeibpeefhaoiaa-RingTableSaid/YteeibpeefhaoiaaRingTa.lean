/- The names of nodes and topics: their keys, by the sums. No condition beside the numbers' bounds. -/
import Derived.Test.YteeibpeefhaoiaaShaL
import Derived.Deep.RegionWith
namespace Go.Proofs.Yteeibpeefhaoiaa
open Go.RowKit
set_option linter.unusedVariables false

def ds : ByteArray := ⟨#[48, 49, 50, 51, 52, 53, 54, 55]⟩
def nName (n : Int) : ByteArray := ⟨#[110]⟩ ++ ds.extract n.toNat (n + 1).toNat
def tName (n : Int) : ByteArray := ⟨#[116]⟩ ++ ds.extract n.toNat (n + 1).toNat
theorem nName_head {n : Int} (h : 0 ≤ n ∧ n < 8) : headL (strB (nName n)) = nk n := by
  rcases eight h with rfl | rfl | rfl | rfl | rfl | rfl | rfl | rfl <;> decide +kernel
theorem tName_head {n : Int} (h : 0 ≤ n ∧ n < 4) : headL (strB (tName n)) = tk n := by
  rcases four h with rfl | rfl | rfl | rfl <;> decide +kernel
theorem nName_size {n : Int} (h : 0 ≤ n ∧ n < 8) : (nName n).size = 2 := by
  rcases eight h with rfl | rfl | rfl | rfl | rfl | rfl | rfl | rfl <;> decide +kernel
theorem tName_size {n : Int} (h : 0 ≤ n ∧ n < 4) : (tName n).size = 2 := by
  rcases four h with rfl | rfl | rfl | rfl <;> decide +kernel
theorem nk_inj {n m : Int} (h : 0 ≤ n ∧ n < 8) (h' : 0 ≤ m ∧ m < 8) (e : nk n = nk m) : n = m := by
  rcases eight h with rfl | rfl | rfl | rfl | rfl | rfl | rfl | rfl <;> rcases eight h' with rfl | rfl | rfl | rfl | rfl | rfl | rfl | rfl <;> first | rfl | (revert e; decide)
theorem nk_tk {n t : Int} (h : 0 ≤ n ∧ n < 8) (h' : 0 ≤ t ∧ t < 4) : nk n ≠ tk t := by
  rcases eight h with rfl | rfl | rfl | rfl | rfl | rfl | rfl | rfl <;> rcases four h' with rfl | rfl | rfl | rfl <;> decide

end Go.Proofs.Yteeibpeefhaoiaa
