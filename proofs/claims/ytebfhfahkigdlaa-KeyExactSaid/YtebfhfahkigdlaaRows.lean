/-
  No cell of these rows narrows 'for every input' (looked for: loops, veiled, ifaces, maps, wideKeys, modest, calm, conditions, laid).
  DERIVED. THE GIVEN ROWS OF THIS SEAT. 9 by the template 'for every input the law returns true; each argument reads behind the call as it read before'; 0 by the template 'total and deterministic' (their statements: YtebfhfahkigdlaaTotals.lean).
  GIVEN WITH THE SEED: the statements are not yours to turn. If you find one false, say at which input.
  Laid BY PROGRAM, IN A SANDBOX (cutbox-rows.mjs): the forced cells as the released guide's own fill.sh prints them over the translation b3f3e0d6295a1c92… (all of the seat's roots in one cut). By AI agents, Wed Nov 11 2026. No macro, syntax, notation, axiom, sorry.
-/
import Derived.Test.YtebfhfahkigdlaaChecked
import GoSem.Claim
import GoSem.ClaimJoined
import GoSem.ClaimMapViews
import Derived.JoinedTies
import Derived.KernelRfl
namespace Go.Proofs.Ytebfhfahkigdlaa
/- THE CELL 'sum', in the pinned program and in every row, IS THE sha256 OF THE DUMP (.gsa) THAT YtebfhfahkigdlaaProg.lean LOADS. Nothing in Lean hashes anything: it is a label: what it is worth is what the hold of that sum in a sandbox is worth. -/
noncomputable def Try.pinned : Pinned := { name := "ytebfhfahkigdlaa", sum := "b3f3e0d6295a1c9294582882fd06e0fbfcdd6b7f6feab3dd65142d6f898ba0eb", checked := Try.checked }
namespace Rows
def none {H : Type} : Left H := { results := [], args := [] }

/-- 'bellwetherlaw14.EpochExact': WHATEVER THE INPUT: true; the input reads as it did. -/
def epochExactSpec : ChangeSpec := { name := "epochExact", fn := fun _ => fun
  | [d1, d2, d3] => { results := [.lit (.bool true)], args := [d1, d2, d3] }
  | _ => none }
def epochExactRow : OpenClaim := { program := "ytebfhfahkigdlaa", sum := "b3f3e0d6295a1c9294582882fd06e0fbfcdd6b7f6feab3dd65142d6f898ba0eb", func := "bellwether/bellwetherlaw14.EpochExact", spec := "epochExact", apart := false }
def EpochExactSaid : Prop := epochExactRow.holds Try.pinned (OpenSpec.ofChange epochExactSpec)

/-- ITS FALSE NEIGHBOUR: 'it returns false'. Refute it at one input. -/
def epochExactWrong : ChangeSpec := { name := "epochExact", fn := fun _ => fun
  | [d1, d2, d3] => { results := [.lit (.bool false)], args := [d1, d2, d3] }
  | _ => none }
def EpochExactWrongFalsely : Prop := epochExactRow.holds Try.pinned (OpenSpec.ofChange epochExactWrong)

/-- 'bellwetherlaw14.EpochOnce': WHATEVER THE INPUT: true; the input reads as it did. -/
def epochOnceSpec : ChangeSpec := { name := "epochOnce", fn := fun _ => fun
  | [d1, d2, d3, d4] => { results := [.lit (.bool true)], args := [d1, d2, d3, d4] }
  | _ => none }
def epochOnceRow : OpenClaim := { program := "ytebfhfahkigdlaa", sum := "b3f3e0d6295a1c9294582882fd06e0fbfcdd6b7f6feab3dd65142d6f898ba0eb", func := "bellwether/bellwetherlaw14.EpochOnce", spec := "epochOnce", apart := false }
def EpochOnceSaid : Prop := epochOnceRow.holds Try.pinned (OpenSpec.ofChange epochOnceSpec)

/-- ITS FALSE NEIGHBOUR: 'it returns false'. Refute it at one input. -/
def epochOnceWrong : ChangeSpec := { name := "epochOnce", fn := fun _ => fun
  | [d1, d2, d3, d4] => { results := [.lit (.bool false)], args := [d1, d2, d3, d4] }
  | _ => none }
def EpochOnceWrongFalsely : Prop := epochOnceRow.holds Try.pinned (OpenSpec.ofChange epochOnceWrong)

/-- 'bellwetherlaw14.EpochTurns': WHATEVER THE INPUT: true; the input reads as it did. -/
def epochTurnsSpec : ChangeSpec := { name := "epochTurns", fn := fun _ => fun
  | [d] => { results := [.lit (.bool true)], args := [d] }
  | _ => none }
def epochTurnsRow : OpenClaim := { program := "ytebfhfahkigdlaa", sum := "b3f3e0d6295a1c9294582882fd06e0fbfcdd6b7f6feab3dd65142d6f898ba0eb", func := "bellwether/bellwetherlaw14.EpochTurns", spec := "epochTurns", apart := false }
def EpochTurnsSaid : Prop := epochTurnsRow.holds Try.pinned (OpenSpec.ofChange epochTurnsSpec)

/-- ITS FALSE NEIGHBOUR: 'it returns false'. Refute it at one input. -/
def epochTurnsWrong : ChangeSpec := { name := "epochTurns", fn := fun _ => fun
  | [d] => { results := [.lit (.bool false)], args := [d] }
  | _ => none }
def EpochTurnsWrongFalsely : Prop := epochTurnsRow.holds Try.pinned (OpenSpec.ofChange epochTurnsWrong)

/-- 'bellwetherlaw02.KeyExact': WHATEVER THE INPUT: true; the input reads as it did. -/
def keyExactSpec : ChangeSpec := { name := "keyExact", fn := fun _ => fun
  | [d1, d2, d3, d4] => { results := [.lit (.bool true)], args := [d1, d2, d3, d4] }
  | _ => none }
def keyExactRow : OpenClaim := { program := "ytebfhfahkigdlaa", sum := "b3f3e0d6295a1c9294582882fd06e0fbfcdd6b7f6feab3dd65142d6f898ba0eb", func := "bellwether/bellwetherlaw02.KeyExact", spec := "keyExact", apart := false }
def KeyExactSaid : Prop := keyExactRow.holds Try.pinned (OpenSpec.ofChange keyExactSpec)

/-- ITS FALSE NEIGHBOUR: 'it returns false'. Refute it at one input. -/
def keyExactWrong : ChangeSpec := { name := "keyExact", fn := fun _ => fun
  | [d1, d2, d3, d4] => { results := [.lit (.bool false)], args := [d1, d2, d3, d4] }
  | _ => none }
def KeyExactWrongFalsely : Prop := keyExactRow.holds Try.pinned (OpenSpec.ofChange keyExactWrong)

/-- 'bellwetherlaw02.KeyRound': WHATEVER THE INPUT: true; the input reads as it did. -/
def keyRoundSpec : ChangeSpec := { name := "keyRound", fn := fun _ => fun
  | [d1, d2, d3] => { results := [.lit (.bool true)], args := [d1, d2, d3] }
  | _ => none }
def keyRoundRow : OpenClaim := { program := "ytebfhfahkigdlaa", sum := "b3f3e0d6295a1c9294582882fd06e0fbfcdd6b7f6feab3dd65142d6f898ba0eb", func := "bellwether/bellwetherlaw02.KeyRound", spec := "keyRound", apart := false }
def KeyRoundSaid : Prop := keyRoundRow.holds Try.pinned (OpenSpec.ofChange keyRoundSpec)

/-- ITS FALSE NEIGHBOUR: 'it returns false'. Refute it at one input. -/
def keyRoundWrong : ChangeSpec := { name := "keyRound", fn := fun _ => fun
  | [d1, d2, d3] => { results := [.lit (.bool false)], args := [d1, d2, d3] }
  | _ => none }
def KeyRoundWrongFalsely : Prop := keyRoundRow.holds Try.pinned (OpenSpec.ofChange keyRoundWrong)

/-- 'bellwetherlaw02.KeyBetween': WHATEVER THE INPUT: true; the input reads as it did. -/
def keyBetweenSpec : ChangeSpec := { name := "keyBetween", fn := fun _ => fun
  | [d1, d2, d3] => { results := [.lit (.bool true)], args := [d1, d2, d3] }
  | _ => none }
def keyBetweenRow : OpenClaim := { program := "ytebfhfahkigdlaa", sum := "b3f3e0d6295a1c9294582882fd06e0fbfcdd6b7f6feab3dd65142d6f898ba0eb", func := "bellwether/bellwetherlaw02.KeyBetween", spec := "keyBetween", apart := false }
def KeyBetweenSaid : Prop := keyBetweenRow.holds Try.pinned (OpenSpec.ofChange keyBetweenSpec)

/-- ITS FALSE NEIGHBOUR: 'it returns false'. Refute it at one input. -/
def keyBetweenWrong : ChangeSpec := { name := "keyBetween", fn := fun _ => fun
  | [d1, d2, d3] => { results := [.lit (.bool false)], args := [d1, d2, d3] }
  | _ => none }
def KeyBetweenWrongFalsely : Prop := keyBetweenRow.holds Try.pinned (OpenSpec.ofChange keyBetweenWrong)

/-- 'bellwetherlaw02.KeyBack': WHATEVER THE INPUT: true; the input reads as it did. -/
def keyBackSpec : ChangeSpec := { name := "keyBack", fn := fun _ => fun
  | [d1, d2] => { results := [.lit (.bool true)], args := [d1, d2] }
  | _ => none }
def keyBackRow : OpenClaim := { program := "ytebfhfahkigdlaa", sum := "b3f3e0d6295a1c9294582882fd06e0fbfcdd6b7f6feab3dd65142d6f898ba0eb", func := "bellwether/bellwetherlaw02.KeyBack", spec := "keyBack", apart := false }
def KeyBackSaid : Prop := keyBackRow.holds Try.pinned (OpenSpec.ofChange keyBackSpec)

/-- ITS FALSE NEIGHBOUR: 'it returns false'. Refute it at one input. -/
def keyBackWrong : ChangeSpec := { name := "keyBack", fn := fun _ => fun
  | [d1, d2] => { results := [.lit (.bool false)], args := [d1, d2] }
  | _ => none }
def KeyBackWrongFalsely : Prop := keyBackRow.holds Try.pinned (OpenSpec.ofChange keyBackWrong)

/-- 'bellwetherlaw02.KeyShift': WHATEVER THE INPUT: true; the input reads as it did. -/
def keyShiftSpec : ChangeSpec := { name := "keyShift", fn := fun _ => fun
  | [d1, d2, d3, d4] => { results := [.lit (.bool true)], args := [d1, d2, d3, d4] }
  | _ => none }
def keyShiftRow : OpenClaim := { program := "ytebfhfahkigdlaa", sum := "b3f3e0d6295a1c9294582882fd06e0fbfcdd6b7f6feab3dd65142d6f898ba0eb", func := "bellwether/bellwetherlaw02.KeyShift", spec := "keyShift", apart := false }
def KeyShiftSaid : Prop := keyShiftRow.holds Try.pinned (OpenSpec.ofChange keyShiftSpec)

/-- ITS FALSE NEIGHBOUR: 'it returns false'. Refute it at one input. -/
def keyShiftWrong : ChangeSpec := { name := "keyShift", fn := fun _ => fun
  | [d1, d2, d3, d4] => { results := [.lit (.bool false)], args := [d1, d2, d3, d4] }
  | _ => none }
def KeyShiftWrongFalsely : Prop := keyShiftRow.holds Try.pinned (OpenSpec.ofChange keyShiftWrong)

/-- 'bellwetherlaw02.KeyTwice': WHATEVER THE INPUT: true; the input reads as it did. -/
def keyTwiceSpec : ChangeSpec := { name := "keyTwice", fn := fun _ => fun
  | [d1, d2, d3, d4] => { results := [.lit (.bool true)], args := [d1, d2, d3, d4] }
  | _ => none }
def keyTwiceRow : OpenClaim := { program := "ytebfhfahkigdlaa", sum := "b3f3e0d6295a1c9294582882fd06e0fbfcdd6b7f6feab3dd65142d6f898ba0eb", func := "bellwether/bellwetherlaw02.KeyTwice", spec := "keyTwice", apart := false }
def KeyTwiceSaid : Prop := keyTwiceRow.holds Try.pinned (OpenSpec.ofChange keyTwiceSpec)

/-- ITS FALSE NEIGHBOUR: 'it returns false'. Refute it at one input. -/
def keyTwiceWrong : ChangeSpec := { name := "keyTwice", fn := fun _ => fun
  | [d1, d2, d3, d4] => { results := [.lit (.bool false)], args := [d1, d2, d3, d4] }
  | _ => none }
def KeyTwiceWrongFalsely : Prop := keyTwiceRow.holds Try.pinned (OpenSpec.ofChange keyTwiceWrong)

/- THE SECOND FORM. 'bulk': how many values and letters a reading holds, each counted each time it is reached (what is shared counts as often as it is met; a slice's spare places count too). A statement '..UptoSaid' is the law's where the arguments, and the package variables that the reading takes, are together of bulk at most 1048576: NARROWER than '..Said'. Prove '..Said' where nothing that the law and all that it calls make is longer than what came in: it says more and counts as full. Else prove '..UptoSaid'. A law counts once. -/
mutual
def uptoBulk {H : Type} : DataW H → Nat
  | .lit (.string bytes) => bytes.length + 1
  | .lit _ => 1
  | .nil => 1
  | .ptr d => uptoBulk d + 1
  | .slice elems spare => uptoBulkAll elems + uptoBulkAll spare + 1
  | .agg parts => uptoBulkAll parts + 1
  | .iface _ d => uptoBulk d + 1
  | .map entries => uptoBulkEntries entries + 1
  | .held _ => 1
def uptoBulkAll {H : Type} : List (DataW H) → Nat
  | [] => 0
  | d :: r => uptoBulk d + uptoBulkAll r
def uptoBulkEntries {H : Type} : List (Lit × DataW H) → Nat
  | [] => 0
  | x :: r => uptoBulkEntry x + uptoBulkEntries r
def uptoBulkEntry {H : Type} : Lit × DataW H → Nat
  | (.string bytes, d) => bytes.length + uptoBulk d + 1
  | (_, d) => uptoBulk d + 1
 end
def uptoSmall : (H : Type) → List (DataW H) → Bool := fun _ ds => decide (uptoBulkAll ds ≤ 1048576)
def OpenSpec.upto (s : _root_.Go.ChangeSpec) : _root_.Go.OpenSpec := { _root_.Go.OpenSpec.ofChange s with cond := some uptoSmall }

/-- 'bellwetherlaw14.EpochExact', WHERE WHAT IT READS IS OF BULK AT MOST 1048576: true; the input reads as it did. -/
def epochExactUptoRow : OpenClaim := { program := "ytebfhfahkigdlaa", sum := "b3f3e0d6295a1c9294582882fd06e0fbfcdd6b7f6feab3dd65142d6f898ba0eb", func := "bellwether/bellwetherlaw14.EpochExact", spec := "epochExact", apart := false, narrowed := true }
def EpochExactUptoSaid : Prop := epochExactUptoRow.holds Try.pinned (OpenSpec.upto epochExactSpec)

/-- 'bellwetherlaw14.EpochOnce', WHERE WHAT IT READS IS OF BULK AT MOST 1048576: true; the input reads as it did. -/
def epochOnceUptoRow : OpenClaim := { program := "ytebfhfahkigdlaa", sum := "b3f3e0d6295a1c9294582882fd06e0fbfcdd6b7f6feab3dd65142d6f898ba0eb", func := "bellwether/bellwetherlaw14.EpochOnce", spec := "epochOnce", apart := false, narrowed := true }
def EpochOnceUptoSaid : Prop := epochOnceUptoRow.holds Try.pinned (OpenSpec.upto epochOnceSpec)

/-- 'bellwetherlaw14.EpochTurns', WHERE WHAT IT READS IS OF BULK AT MOST 1048576: true; the input reads as it did. -/
def epochTurnsUptoRow : OpenClaim := { program := "ytebfhfahkigdlaa", sum := "b3f3e0d6295a1c9294582882fd06e0fbfcdd6b7f6feab3dd65142d6f898ba0eb", func := "bellwether/bellwetherlaw14.EpochTurns", spec := "epochTurns", apart := false, narrowed := true }
def EpochTurnsUptoSaid : Prop := epochTurnsUptoRow.holds Try.pinned (OpenSpec.upto epochTurnsSpec)

/-- 'bellwetherlaw02.KeyExact', WHERE WHAT IT READS IS OF BULK AT MOST 1048576: true; the input reads as it did. -/
def keyExactUptoRow : OpenClaim := { program := "ytebfhfahkigdlaa", sum := "b3f3e0d6295a1c9294582882fd06e0fbfcdd6b7f6feab3dd65142d6f898ba0eb", func := "bellwether/bellwetherlaw02.KeyExact", spec := "keyExact", apart := false, narrowed := true }
def KeyExactUptoSaid : Prop := keyExactUptoRow.holds Try.pinned (OpenSpec.upto keyExactSpec)

/-- 'bellwetherlaw02.KeyRound', WHERE WHAT IT READS IS OF BULK AT MOST 1048576: true; the input reads as it did. -/
def keyRoundUptoRow : OpenClaim := { program := "ytebfhfahkigdlaa", sum := "b3f3e0d6295a1c9294582882fd06e0fbfcdd6b7f6feab3dd65142d6f898ba0eb", func := "bellwether/bellwetherlaw02.KeyRound", spec := "keyRound", apart := false, narrowed := true }
def KeyRoundUptoSaid : Prop := keyRoundUptoRow.holds Try.pinned (OpenSpec.upto keyRoundSpec)

/-- 'bellwetherlaw02.KeyBetween', WHERE WHAT IT READS IS OF BULK AT MOST 1048576: true; the input reads as it did. -/
def keyBetweenUptoRow : OpenClaim := { program := "ytebfhfahkigdlaa", sum := "b3f3e0d6295a1c9294582882fd06e0fbfcdd6b7f6feab3dd65142d6f898ba0eb", func := "bellwether/bellwetherlaw02.KeyBetween", spec := "keyBetween", apart := false, narrowed := true }
def KeyBetweenUptoSaid : Prop := keyBetweenUptoRow.holds Try.pinned (OpenSpec.upto keyBetweenSpec)

/-- 'bellwetherlaw02.KeyBack', WHERE WHAT IT READS IS OF BULK AT MOST 1048576: true; the input reads as it did. -/
def keyBackUptoRow : OpenClaim := { program := "ytebfhfahkigdlaa", sum := "b3f3e0d6295a1c9294582882fd06e0fbfcdd6b7f6feab3dd65142d6f898ba0eb", func := "bellwether/bellwetherlaw02.KeyBack", spec := "keyBack", apart := false, narrowed := true }
def KeyBackUptoSaid : Prop := keyBackUptoRow.holds Try.pinned (OpenSpec.upto keyBackSpec)

/-- 'bellwetherlaw02.KeyShift', WHERE WHAT IT READS IS OF BULK AT MOST 1048576: true; the input reads as it did. -/
def keyShiftUptoRow : OpenClaim := { program := "ytebfhfahkigdlaa", sum := "b3f3e0d6295a1c9294582882fd06e0fbfcdd6b7f6feab3dd65142d6f898ba0eb", func := "bellwether/bellwetherlaw02.KeyShift", spec := "keyShift", apart := false, narrowed := true }
def KeyShiftUptoSaid : Prop := keyShiftUptoRow.holds Try.pinned (OpenSpec.upto keyShiftSpec)

/-- 'bellwetherlaw02.KeyTwice', WHERE WHAT IT READS IS OF BULK AT MOST 1048576: true; the input reads as it did. -/
def keyTwiceUptoRow : OpenClaim := { program := "ytebfhfahkigdlaa", sum := "b3f3e0d6295a1c9294582882fd06e0fbfcdd6b7f6feab3dd65142d6f898ba0eb", func := "bellwether/bellwetherlaw02.KeyTwice", spec := "keyTwice", apart := false, narrowed := true }
def KeyTwiceUptoSaid : Prop := keyTwiceUptoRow.holds Try.pinned (OpenSpec.upto keyTwiceSpec)

end Rows
end Go.Proofs.Ytebfhfahkigdlaa
