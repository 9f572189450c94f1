/-
  No cell of these rows narrows 'for every input' (looked for: loops, veiled, ifaces, maps, wideKeys, modest, calm, conditions, laid).
  DERIVED. THE GIVEN ROWS OF THIS SEAT. 9 by the template 'for every input the law returns true; each argument reads behind the call as it read before'; 0 by the template 'total and deterministic' (their statements: YteeibpeefhaoiaaTotals.lean).
  GIVEN WITH THE SEED: the statements are not yours to turn. If you find one false, say at which input.
  Laid BY PROGRAM, IN A SANDBOX (cutbox-rows.mjs): the forced cells as the released guide's own fill.sh prints them over the translation 35970f0b1cd3ef1d… (all of the seat's roots in one cut). By AI agents, Wed Nov 11 2026. No macro, syntax, notation, axiom, sorry.
-/
import Derived.Test.YteeibpeefhaoiaaChecked
import GoSem.Claim
import GoSem.ClaimJoined
import GoSem.ClaimMapViews
import Derived.JoinedTies
import Derived.KernelRfl
namespace Go.Proofs.Yteeibpeefhaoiaa
/- THE CELL 'sum', in the pinned program and in every row, IS THE sha256 OF THE DUMP (.gsa) THAT YteeibpeefhaoiaaProg.lean LOADS. Nothing in Lean hashes anything: it is a label: what it is worth is what the hold of that sum in a sandbox is worth. -/
noncomputable def Try.pinned : Pinned := { name := "yteeibpeefhaoiaa", sum := "35970f0b1cd3ef1d5b4197a55a243fcf7f80a058935e2c7a702c90cdb5b9beda", checked := Try.checked }
namespace Rows
def none {H : Type} : Left H := { results := [], args := [] }

/-- 'bellwetherlaw03.RingExact': WHATEVER THE INPUT: true; the input reads as it did. -/
def ringExactSpec : ChangeSpec := { name := "ringExact", fn := fun _ => fun
  | [d1, d2, d3, d4] => { results := [.lit (.bool true)], args := [d1, d2, d3, d4] }
  | _ => none }
def ringExactRow : OpenClaim := { program := "yteeibpeefhaoiaa", sum := "35970f0b1cd3ef1d5b4197a55a243fcf7f80a058935e2c7a702c90cdb5b9beda", func := "bellwether/bellwetherlaw03.RingExact", spec := "ringExact", unfollowed := true, recurses := true, apart := false }
def RingExactSaid : Prop := ringExactRow.holds Try.pinned (OpenSpec.ofChange ringExactSpec)

/-- ITS FALSE NEIGHBOUR: 'it returns false'. Refute it at one input. -/
def ringExactWrong : ChangeSpec := { name := "ringExact", fn := fun _ => fun
  | [d1, d2, d3, d4] => { results := [.lit (.bool false)], args := [d1, d2, d3, d4] }
  | _ => none }
def RingExactWrongFalsely : Prop := ringExactRow.holds Try.pinned (OpenSpec.ofChange ringExactWrong)

/-- 'bellwetherlaw03.RingNearer': WHATEVER THE INPUT: true; the input reads as it did. -/
def ringNearerSpec : ChangeSpec := { name := "ringNearer", fn := fun _ => fun
  | [d1, d2, d3, d4, d5] => { results := [.lit (.bool true)], args := [d1, d2, d3, d4, d5] }
  | _ => none }
def ringNearerRow : OpenClaim := { program := "yteeibpeefhaoiaa", sum := "35970f0b1cd3ef1d5b4197a55a243fcf7f80a058935e2c7a702c90cdb5b9beda", func := "bellwether/bellwetherlaw03.RingNearer", spec := "ringNearer", unfollowed := true, recurses := true, apart := false }
def RingNearerSaid : Prop := ringNearerRow.holds Try.pinned (OpenSpec.ofChange ringNearerSpec)

/-- ITS FALSE NEIGHBOUR: 'it returns false'. Refute it at one input. -/
def ringNearerWrong : ChangeSpec := { name := "ringNearer", fn := fun _ => fun
  | [d1, d2, d3, d4, d5] => { results := [.lit (.bool false)], args := [d1, d2, d3, d4, d5] }
  | _ => none }
def RingNearerWrongFalsely : Prop := ringNearerRow.holds Try.pinned (OpenSpec.ofChange ringNearerWrong)

/-- 'bellwetherlaw03.RingOwners': WHATEVER THE INPUT: true; the input reads as it did. -/
def ringOwnersSpec : ChangeSpec := { name := "ringOwners", fn := fun _ => fun
  | [d1, d2, d3] => { results := [.lit (.bool true)], args := [d1, d2, d3] }
  | _ => none }
def ringOwnersRow : OpenClaim := { program := "yteeibpeefhaoiaa", sum := "35970f0b1cd3ef1d5b4197a55a243fcf7f80a058935e2c7a702c90cdb5b9beda", func := "bellwether/bellwetherlaw03.RingOwners", spec := "ringOwners", unfollowed := true, recurses := true, apart := false }
def RingOwnersSaid : Prop := ringOwnersRow.holds Try.pinned (OpenSpec.ofChange ringOwnersSpec)

/-- ITS FALSE NEIGHBOUR: 'it returns false'. Refute it at one input. -/
def ringOwnersWrong : ChangeSpec := { name := "ringOwners", fn := fun _ => fun
  | [d1, d2, d3] => { results := [.lit (.bool false)], args := [d1, d2, d3] }
  | _ => none }
def RingOwnersWrongFalsely : Prop := ringOwnersRow.holds Try.pinned (OpenSpec.ofChange ringOwnersWrong)

/-- 'bellwetherlaw03.RingGaps': WHATEVER THE INPUT: true; the input reads as it did. -/
def ringGapsSpec : ChangeSpec := { name := "ringGaps", fn := fun _ => fun
  | [d1, d2, d3] => { results := [.lit (.bool true)], args := [d1, d2, d3] }
  | _ => none }
def ringGapsRow : OpenClaim := { program := "yteeibpeefhaoiaa", sum := "35970f0b1cd3ef1d5b4197a55a243fcf7f80a058935e2c7a702c90cdb5b9beda", func := "bellwether/bellwetherlaw03.RingGaps", spec := "ringGaps", unfollowed := true, recurses := true, apart := false }
def RingGapsSaid : Prop := ringGapsRow.holds Try.pinned (OpenSpec.ofChange ringGapsSpec)

/-- ITS FALSE NEIGHBOUR: 'it returns false'. Refute it at one input. -/
def ringGapsWrong : ChangeSpec := { name := "ringGaps", fn := fun _ => fun
  | [d1, d2, d3] => { results := [.lit (.bool false)], args := [d1, d2, d3] }
  | _ => none }
def RingGapsWrongFalsely : Prop := ringGapsRow.holds Try.pinned (OpenSpec.ofChange ringGapsWrong)

/-- 'bellwetherlaw01.ShaExact': WHATEVER THE INPUT: true; the input reads as it did. -/
def shaExactSpec : ChangeSpec := { name := "shaExact", fn := fun _ => fun
  | [d] => { results := [.lit (.bool true)], args := [d] }
  | _ => none }
def shaExactRow : OpenClaim := { program := "yteeibpeefhaoiaa", sum := "35970f0b1cd3ef1d5b4197a55a243fcf7f80a058935e2c7a702c90cdb5b9beda", func := "bellwether/bellwetherlaw01.ShaExact", spec := "shaExact", unfollowed := true, recurses := true, apart := false }
def ShaExactSaid : Prop := shaExactRow.holds Try.pinned (OpenSpec.ofChange shaExactSpec)

/-- ITS FALSE NEIGHBOUR: 'it returns false'. Refute it at one input. -/
def shaExactWrong : ChangeSpec := { name := "shaExact", fn := fun _ => fun
  | [d] => { results := [.lit (.bool false)], args := [d] }
  | _ => none }
def ShaExactWrongFalsely : Prop := shaExactRow.holds Try.pinned (OpenSpec.ofChange shaExactWrong)

/-- 'bellwetherlaw01.ShaKnown': WHATEVER THE INPUT: true; the input reads as it did. -/
def shaKnownSpec : ChangeSpec := { name := "shaKnown", fn := fun _ => fun
  | [d] => { results := [.lit (.bool true)], args := [d] }
  | _ => none }
def shaKnownRow : OpenClaim := { program := "yteeibpeefhaoiaa", sum := "35970f0b1cd3ef1d5b4197a55a243fcf7f80a058935e2c7a702c90cdb5b9beda", func := "bellwether/bellwetherlaw01.ShaKnown", spec := "shaKnown", unfollowed := true, recurses := true, apart := false }
def ShaKnownSaid : Prop := shaKnownRow.holds Try.pinned (OpenSpec.ofChange shaKnownSpec)

/-- ITS FALSE NEIGHBOUR: 'it returns false'. Refute it at one input. -/
def shaKnownWrong : ChangeSpec := { name := "shaKnown", fn := fun _ => fun
  | [d] => { results := [.lit (.bool false)], args := [d] }
  | _ => none }
def ShaKnownWrongFalsely : Prop := shaKnownRow.holds Try.pinned (OpenSpec.ofChange shaKnownWrong)

/-- 'bellwetherlaw01.ShaHex': WHATEVER THE INPUT: true; the input reads as it did. -/
def shaHexSpec : ChangeSpec := { name := "shaHex", fn := fun _ => fun
  | [d] => { results := [.lit (.bool true)], args := [d] }
  | _ => none }
def shaHexRow : OpenClaim := { program := "yteeibpeefhaoiaa", sum := "35970f0b1cd3ef1d5b4197a55a243fcf7f80a058935e2c7a702c90cdb5b9beda", func := "bellwether/bellwetherlaw01.ShaHex", spec := "shaHex", unfollowed := true, recurses := true, apart := false }
def ShaHexSaid : Prop := shaHexRow.holds Try.pinned (OpenSpec.ofChange shaHexSpec)

/-- ITS FALSE NEIGHBOUR: 'it returns false'. Refute it at one input. -/
def shaHexWrong : ChangeSpec := { name := "shaHex", fn := fun _ => fun
  | [d] => { results := [.lit (.bool false)], args := [d] }
  | _ => none }
def ShaHexWrongFalsely : Prop := shaHexRow.holds Try.pinned (OpenSpec.ofChange shaHexWrong)

/-- 'bellwetherlaw01.ShaLengths': WHATEVER THE INPUT: true; the input reads as it did. -/
def shaLengthsSpec : ChangeSpec := { name := "shaLengths", fn := fun _ => fun
  | [d1, d2] => { results := [.lit (.bool true)], args := [d1, d2] }
  | _ => none }
def shaLengthsRow : OpenClaim := { program := "yteeibpeefhaoiaa", sum := "35970f0b1cd3ef1d5b4197a55a243fcf7f80a058935e2c7a702c90cdb5b9beda", func := "bellwether/bellwetherlaw01.ShaLengths", spec := "shaLengths", unfollowed := true, recurses := true, apart := false }
def ShaLengthsSaid : Prop := shaLengthsRow.holds Try.pinned (OpenSpec.ofChange shaLengthsSpec)

/-- ITS FALSE NEIGHBOUR: 'it returns false'. Refute it at one input. -/
def shaLengthsWrong : ChangeSpec := { name := "shaLengths", fn := fun _ => fun
  | [d1, d2] => { results := [.lit (.bool false)], args := [d1, d2] }
  | _ => none }
def ShaLengthsWrongFalsely : Prop := shaLengthsRow.holds Try.pinned (OpenSpec.ofChange shaLengthsWrong)

/-- 'bellwetherlaw03.RingTable': WHATEVER THE INPUT: true; the input reads as it did. -/
def ringTableSpec : ChangeSpec := { name := "ringTable", fn := fun _ => fun
  | [d1, d2, d3] => { results := [.lit (.bool true)], args := [d1, d2, d3] }
  | _ => none }
def ringTableRow : OpenClaim := { program := "yteeibpeefhaoiaa", sum := "35970f0b1cd3ef1d5b4197a55a243fcf7f80a058935e2c7a702c90cdb5b9beda", func := "bellwether/bellwetherlaw03.RingTable", spec := "ringTable", unfollowed := true, recurses := true, apart := false }
def RingTableSaid : Prop := ringTableRow.holds Try.pinned (OpenSpec.ofChange ringTableSpec)

/-- ITS FALSE NEIGHBOUR: 'it returns false'. Refute it at one input. -/
def ringTableWrong : ChangeSpec := { name := "ringTable", fn := fun _ => fun
  | [d1, d2, d3] => { results := [.lit (.bool false)], args := [d1, d2, d3] }
  | _ => none }
def RingTableWrongFalsely : Prop := ringTableRow.holds Try.pinned (OpenSpec.ofChange ringTableWrong)

/- THE SECOND FORM. 'bulk': how many values and letters a reading holds, each counted each time it is reached (what is shared counts as often as it is met; a slice's spare places count too). A statement '..UptoSaid' is the law's where the arguments, and the package variables that the reading takes, are together of bulk at most 1048576: NARROWER than '..Said'. Prove '..Said' where nothing that the law and all that it calls make is longer than what came in: it says more and counts as full. Else prove '..UptoSaid'. A law counts once. -/
mutual
def uptoBulk {H : Type} : DataW H → Nat
  | .lit (.string bytes) => bytes.length + 1
  | .lit _ => 1
  | .nil => 1
  | .ptr d => uptoBulk d + 1
  | .slice elems spare => uptoBulkAll elems + uptoBulkAll spare + 1
  | .agg parts => uptoBulkAll parts + 1
  | .iface _ d => uptoBulk d + 1
  | .map entries => uptoBulkEntries entries + 1
  | .held _ => 1
def uptoBulkAll {H : Type} : List (DataW H) → Nat
  | [] => 0
  | d :: r => uptoBulk d + uptoBulkAll r
def uptoBulkEntries {H : Type} : List (Lit × DataW H) → Nat
  | [] => 0
  | x :: r => uptoBulkEntry x + uptoBulkEntries r
def uptoBulkEntry {H : Type} : Lit × DataW H → Nat
  | (.string bytes, d) => bytes.length + uptoBulk d + 1
  | (_, d) => uptoBulk d + 1
 end
def uptoSmall : (H : Type) → List (DataW H) → Bool := fun _ ds => decide (uptoBulkAll ds ≤ 1048576)
def OpenSpec.upto (s : _root_.Go.ChangeSpec) : _root_.Go.OpenSpec := { _root_.Go.OpenSpec.ofChange s with cond := some uptoSmall }

/-- 'bellwetherlaw03.RingExact', WHERE WHAT IT READS IS OF BULK AT MOST 1048576: true; the input reads as it did. -/
def ringExactUptoRow : OpenClaim := { program := "yteeibpeefhaoiaa", sum := "35970f0b1cd3ef1d5b4197a55a243fcf7f80a058935e2c7a702c90cdb5b9beda", func := "bellwether/bellwetherlaw03.RingExact", spec := "ringExact", unfollowed := true, recurses := true, apart := false, narrowed := true }
def RingExactUptoSaid : Prop := ringExactUptoRow.holds Try.pinned (OpenSpec.upto ringExactSpec)

/-- 'bellwetherlaw03.RingNearer', WHERE WHAT IT READS IS OF BULK AT MOST 1048576: true; the input reads as it did. -/
def ringNearerUptoRow : OpenClaim := { program := "yteeibpeefhaoiaa", sum := "35970f0b1cd3ef1d5b4197a55a243fcf7f80a058935e2c7a702c90cdb5b9beda", func := "bellwether/bellwetherlaw03.RingNearer", spec := "ringNearer", unfollowed := true, recurses := true, apart := false, narrowed := true }
def RingNearerUptoSaid : Prop := ringNearerUptoRow.holds Try.pinned (OpenSpec.upto ringNearerSpec)

/-- 'bellwetherlaw03.RingOwners', WHERE WHAT IT READS IS OF BULK AT MOST 1048576: true; the input reads as it did. -/
def ringOwnersUptoRow : OpenClaim := { program := "yteeibpeefhaoiaa", sum := "35970f0b1cd3ef1d5b4197a55a243fcf7f80a058935e2c7a702c90cdb5b9beda", func := "bellwether/bellwetherlaw03.RingOwners", spec := "ringOwners", unfollowed := true, recurses := true, apart := false, narrowed := true }
def RingOwnersUptoSaid : Prop := ringOwnersUptoRow.holds Try.pinned (OpenSpec.upto ringOwnersSpec)

/-- 'bellwetherlaw03.RingGaps', WHERE WHAT IT READS IS OF BULK AT MOST 1048576: true; the input reads as it did. -/
def ringGapsUptoRow : OpenClaim := { program := "yteeibpeefhaoiaa", sum := "35970f0b1cd3ef1d5b4197a55a243fcf7f80a058935e2c7a702c90cdb5b9beda", func := "bellwether/bellwetherlaw03.RingGaps", spec := "ringGaps", unfollowed := true, recurses := true, apart := false, narrowed := true }
def RingGapsUptoSaid : Prop := ringGapsUptoRow.holds Try.pinned (OpenSpec.upto ringGapsSpec)

/-- 'bellwetherlaw01.ShaExact', WHERE WHAT IT READS IS OF BULK AT MOST 1048576: true; the input reads as it did. -/
def shaExactUptoRow : OpenClaim := { program := "yteeibpeefhaoiaa", sum := "35970f0b1cd3ef1d5b4197a55a243fcf7f80a058935e2c7a702c90cdb5b9beda", func := "bellwether/bellwetherlaw01.ShaExact", spec := "shaExact", unfollowed := true, recurses := true, apart := false, narrowed := true }
def ShaExactUptoSaid : Prop := shaExactUptoRow.holds Try.pinned (OpenSpec.upto shaExactSpec)

/-- 'bellwetherlaw01.ShaKnown', WHERE WHAT IT READS IS OF BULK AT MOST 1048576: true; the input reads as it did. -/
def shaKnownUptoRow : OpenClaim := { program := "yteeibpeefhaoiaa", sum := "35970f0b1cd3ef1d5b4197a55a243fcf7f80a058935e2c7a702c90cdb5b9beda", func := "bellwether/bellwetherlaw01.ShaKnown", spec := "shaKnown", unfollowed := true, recurses := true, apart := false, narrowed := true }
def ShaKnownUptoSaid : Prop := shaKnownUptoRow.holds Try.pinned (OpenSpec.upto shaKnownSpec)

/-- 'bellwetherlaw01.ShaHex', WHERE WHAT IT READS IS OF BULK AT MOST 1048576: true; the input reads as it did. -/
def shaHexUptoRow : OpenClaim := { program := "yteeibpeefhaoiaa", sum := "35970f0b1cd3ef1d5b4197a55a243fcf7f80a058935e2c7a702c90cdb5b9beda", func := "bellwether/bellwetherlaw01.ShaHex", spec := "shaHex", unfollowed := true, recurses := true, apart := false, narrowed := true }
def ShaHexUptoSaid : Prop := shaHexUptoRow.holds Try.pinned (OpenSpec.upto shaHexSpec)

/-- 'bellwetherlaw01.ShaLengths', WHERE WHAT IT READS IS OF BULK AT MOST 1048576: true; the input reads as it did. -/
def shaLengthsUptoRow : OpenClaim := { program := "yteeibpeefhaoiaa", sum := "35970f0b1cd3ef1d5b4197a55a243fcf7f80a058935e2c7a702c90cdb5b9beda", func := "bellwether/bellwetherlaw01.ShaLengths", spec := "shaLengths", unfollowed := true, recurses := true, apart := false, narrowed := true }
def ShaLengthsUptoSaid : Prop := shaLengthsUptoRow.holds Try.pinned (OpenSpec.upto shaLengthsSpec)

/-- 'bellwetherlaw03.RingTable', WHERE WHAT IT READS IS OF BULK AT MOST 1048576: true; the input reads as it did. -/
def ringTableUptoRow : OpenClaim := { program := "yteeibpeefhaoiaa", sum := "35970f0b1cd3ef1d5b4197a55a243fcf7f80a058935e2c7a702c90cdb5b9beda", func := "bellwether/bellwetherlaw03.RingTable", spec := "ringTable", unfollowed := true, recurses := true, apart := false, narrowed := true }
def RingTableUptoSaid : Prop := ringTableUptoRow.holds Try.pinned (OpenSpec.upto ringTableSpec)

end Rows
end Go.Proofs.Yteeibpeefhaoiaa
