/-
  No cell of these rows narrows 'for every input' (looked for: loops, veiled, ifaces, maps, wideKeys, modest, calm, conditions, laid).
  DERIVED. THE GIVEN ROWS OF THIS SEAT. 6 by the template 'for every input the law returns true; each argument reads behind the call as it read before'; 0 by the template 'total and deterministic' (their statements: YtgepflelaemmnaaTotals.lean).
  GIVEN WITH THE SEED: the statements are not yours to turn. If you find one false, say at which input.
  Laid BY PROGRAM, IN A SANDBOX (cutbox-rows.mjs): the forced cells as the released guide's own fill.sh prints them over the translation cc4caecd9318a2bf… (all of the seat's roots in one cut). By AI agents, Wed Nov 11 2026. No macro, syntax, notation, axiom, sorry.
-/
import Derived.Test.YtgepflelaemmnaaChecked
import GoSem.Claim
import GoSem.ClaimJoined
import GoSem.ClaimMapViews
import Derived.JoinedTies
import Derived.KernelRfl
namespace Go.Proofs.Ytgepflelaemmnaa
/- THE CELL 'sum', in the pinned program and in every row, IS THE sha256 OF THE DUMP (.gsa) THAT YtgepflelaemmnaaProg.lean LOADS. Nothing in Lean hashes anything: it is a label: what it is worth is what the hold of that sum in a sandbox is worth. -/
noncomputable def Try.pinned : Pinned := { name := "ytgepflelaemmnaa", sum := "cc4caecd9318a2bfbc877c768771653d0dc0428e14ab727dc9e2bb49878f5074", checked := Try.checked }
namespace Rows
def none {H : Type} : Left H := { results := [], args := [] }

/-- 'semaphorelaw09.InputsRight': WHATEVER THE INPUT: true; the input reads as it did. -/
def inputsRightSpec : ChangeSpec := { name := "inputsRight", fn := fun _ => fun
  | [d1, d2] => { results := [.lit (.bool true)], args := [d1, d2] }
  | _ => none }
def inputsRightRow : OpenClaim := { program := "ytgepflelaemmnaa", sum := "cc4caecd9318a2bfbc877c768771653d0dc0428e14ab727dc9e2bb49878f5074", func := "semaphore/semaphorelaw09.InputsRight", spec := "inputsRight", apart := false }
def InputsRightSaid : Prop := inputsRightRow.holds Try.pinned (OpenSpec.ofChange inputsRightSpec)

/-- ITS FALSE NEIGHBOUR: 'it returns false'. Refute it at one input. -/
def inputsRightWrong : ChangeSpec := { name := "inputsRight", fn := fun _ => fun
  | [d1, d2] => { results := [.lit (.bool false)], args := [d1, d2] }
  | _ => none }
def InputsRightWrongFalsely : Prop := inputsRightRow.holds Try.pinned (OpenSpec.ofChange inputsRightWrong)

/-- 'semaphorelaw09.InputsMerge': WHATEVER THE INPUT: true; the input reads as it did. -/
def inputsMergeSpec : ChangeSpec := { name := "inputsMerge", fn := fun _ => fun
  | [d1, d2] => { results := [.lit (.bool true)], args := [d1, d2] }
  | _ => none }
def inputsMergeRow : OpenClaim := { program := "ytgepflelaemmnaa", sum := "cc4caecd9318a2bfbc877c768771653d0dc0428e14ab727dc9e2bb49878f5074", func := "semaphore/semaphorelaw09.InputsMerge", spec := "inputsMerge", apart := false }
def InputsMergeSaid : Prop := inputsMergeRow.holds Try.pinned (OpenSpec.ofChange inputsMergeSpec)

/-- ITS FALSE NEIGHBOUR: 'it returns false'. Refute it at one input. -/
def inputsMergeWrong : ChangeSpec := { name := "inputsMerge", fn := fun _ => fun
  | [d1, d2] => { results := [.lit (.bool false)], args := [d1, d2] }
  | _ => none }
def InputsMergeWrongFalsely : Prop := inputsMergeRow.holds Try.pinned (OpenSpec.ofChange inputsMergeWrong)

/-- 'semaphorelaw09.InputsSides': WHATEVER THE INPUT: true; the input reads as it did. -/
def inputsSidesSpec : ChangeSpec := { name := "inputsSides", fn := fun _ => fun
  | [d1, d2] => { results := [.lit (.bool true)], args := [d1, d2] }
  | _ => none }
def inputsSidesRow : OpenClaim := { program := "ytgepflelaemmnaa", sum := "cc4caecd9318a2bfbc877c768771653d0dc0428e14ab727dc9e2bb49878f5074", func := "semaphore/semaphorelaw09.InputsSides", spec := "inputsSides", apart := false }
def InputsSidesSaid : Prop := inputsSidesRow.holds Try.pinned (OpenSpec.ofChange inputsSidesSpec)

/-- ITS FALSE NEIGHBOUR: 'it returns false'. Refute it at one input. -/
def inputsSidesWrong : ChangeSpec := { name := "inputsSides", fn := fun _ => fun
  | [d1, d2] => { results := [.lit (.bool false)], args := [d1, d2] }
  | _ => none }
def InputsSidesWrongFalsely : Prop := inputsSidesRow.holds Try.pinned (OpenSpec.ofChange inputsSidesWrong)

/-- 'semaphorelaw09.InputsSame': WHATEVER THE INPUT: true; the input reads as it did. -/
def inputsSameSpec : ChangeSpec := { name := "inputsSame", fn := fun _ => fun
  | [d1, d2] => { results := [.lit (.bool true)], args := [d1, d2] }
  | _ => none }
def inputsSameRow : OpenClaim := { program := "ytgepflelaemmnaa", sum := "cc4caecd9318a2bfbc877c768771653d0dc0428e14ab727dc9e2bb49878f5074", func := "semaphore/semaphorelaw09.InputsSame", spec := "inputsSame", apart := false }
def InputsSameSaid : Prop := inputsSameRow.holds Try.pinned (OpenSpec.ofChange inputsSameSpec)

/-- ITS FALSE NEIGHBOUR: 'it returns false'. Refute it at one input. -/
def inputsSameWrong : ChangeSpec := { name := "inputsSame", fn := fun _ => fun
  | [d1, d2] => { results := [.lit (.bool false)], args := [d1, d2] }
  | _ => none }
def InputsSameWrongFalsely : Prop := inputsSameRow.holds Try.pinned (OpenSpec.ofChange inputsSameWrong)

/-- 'semaphorelaw09.InputsSafe': WHATEVER THE INPUT: true; the input reads as it did. -/
def inputsSafeSpec : ChangeSpec := { name := "inputsSafe", fn := fun _ => fun
  | [d1, d2, d3] => { results := [.lit (.bool true)], args := [d1, d2, d3] }
  | _ => none }
def inputsSafeRow : OpenClaim := { program := "ytgepflelaemmnaa", sum := "cc4caecd9318a2bfbc877c768771653d0dc0428e14ab727dc9e2bb49878f5074", func := "semaphore/semaphorelaw09.InputsSafe", spec := "inputsSafe", apart := false }
def InputsSafeSaid : Prop := inputsSafeRow.holds Try.pinned (OpenSpec.ofChange inputsSafeSpec)

/-- ITS FALSE NEIGHBOUR: 'it returns false'. Refute it at one input. -/
def inputsSafeWrong : ChangeSpec := { name := "inputsSafe", fn := fun _ => fun
  | [d1, d2, d3] => { results := [.lit (.bool false)], args := [d1, d2, d3] }
  | _ => none }
def InputsSafeWrongFalsely : Prop := inputsSafeRow.holds Try.pinned (OpenSpec.ofChange inputsSafeWrong)

/-- 'semaphorelaw09.InputsKnown': WHATEVER THE INPUT: true; the input reads as it did. -/
def inputsKnownSpec : ChangeSpec := { name := "inputsKnown", fn := fun _ => fun
  | [] => { results := [.lit (.bool true)], args := [] }
  | _ => none }
def inputsKnownRow : OpenClaim := { program := "ytgepflelaemmnaa", sum := "cc4caecd9318a2bfbc877c768771653d0dc0428e14ab727dc9e2bb49878f5074", func := "semaphore/semaphorelaw09.InputsKnown", spec := "inputsKnown", apart := false }
def InputsKnownSaid : Prop := inputsKnownRow.holds Try.pinned (OpenSpec.ofChange inputsKnownSpec)

/-- ITS FALSE NEIGHBOUR: 'it returns false'. Refute it at one input. -/
def inputsKnownWrong : ChangeSpec := { name := "inputsKnown", fn := fun _ => fun
  | [] => { results := [.lit (.bool false)], args := [] }
  | _ => none }
def InputsKnownWrongFalsely : Prop := inputsKnownRow.holds Try.pinned (OpenSpec.ofChange inputsKnownWrong)

/- THE SECOND FORM. 'bulk': how many values and letters a reading holds, each counted each time it is reached (what is shared counts as often as it is met; a slice's spare places count too). A statement '..UptoSaid' is the law's where the arguments, and the package variables that the reading takes, are together of bulk at most 1048576: NARROWER than '..Said'. Prove '..Said' where nothing that the law and all that it calls make is longer than what came in: it says more and counts as full. Else prove '..UptoSaid'. A law counts once. -/
mutual
def uptoBulk {H : Type} : DataW H → Nat
  | .lit (.string bytes) => bytes.length + 1
  | .lit _ => 1
  | .nil => 1
  | .ptr d => uptoBulk d + 1
  | .slice elems spare => uptoBulkAll elems + uptoBulkAll spare + 1
  | .agg parts => uptoBulkAll parts + 1
  | .iface _ d => uptoBulk d + 1
  | .map entries => uptoBulkEntries entries + 1
  | .held _ => 1
def uptoBulkAll {H : Type} : List (DataW H) → Nat
  | [] => 0
  | d :: r => uptoBulk d + uptoBulkAll r
def uptoBulkEntries {H : Type} : List (Lit × DataW H) → Nat
  | [] => 0
  | x :: r => uptoBulkEntry x + uptoBulkEntries r
def uptoBulkEntry {H : Type} : Lit × DataW H → Nat
  | (.string bytes, d) => bytes.length + uptoBulk d + 1
  | (_, d) => uptoBulk d + 1
 end
def uptoSmall : (H : Type) → List (DataW H) → Bool := fun _ ds => decide (uptoBulkAll ds ≤ 1048576)
def OpenSpec.upto (s : _root_.Go.ChangeSpec) : _root_.Go.OpenSpec := { _root_.Go.OpenSpec.ofChange s with cond := some uptoSmall }

/-- 'semaphorelaw09.InputsRight', WHERE WHAT IT READS IS OF BULK AT MOST 1048576: true; the input reads as it did. -/
def inputsRightUptoRow : OpenClaim := { program := "ytgepflelaemmnaa", sum := "cc4caecd9318a2bfbc877c768771653d0dc0428e14ab727dc9e2bb49878f5074", func := "semaphore/semaphorelaw09.InputsRight", spec := "inputsRight", apart := false, narrowed := true }
def InputsRightUptoSaid : Prop := inputsRightUptoRow.holds Try.pinned (OpenSpec.upto inputsRightSpec)

/-- 'semaphorelaw09.InputsMerge', WHERE WHAT IT READS IS OF BULK AT MOST 1048576: true; the input reads as it did. -/
def inputsMergeUptoRow : OpenClaim := { program := "ytgepflelaemmnaa", sum := "cc4caecd9318a2bfbc877c768771653d0dc0428e14ab727dc9e2bb49878f5074", func := "semaphore/semaphorelaw09.InputsMerge", spec := "inputsMerge", apart := false, narrowed := true }
def InputsMergeUptoSaid : Prop := inputsMergeUptoRow.holds Try.pinned (OpenSpec.upto inputsMergeSpec)

/-- 'semaphorelaw09.InputsSides', WHERE WHAT IT READS IS OF BULK AT MOST 1048576: true; the input reads as it did. -/
def inputsSidesUptoRow : OpenClaim := { program := "ytgepflelaemmnaa", sum := "cc4caecd9318a2bfbc877c768771653d0dc0428e14ab727dc9e2bb49878f5074", func := "semaphore/semaphorelaw09.InputsSides", spec := "inputsSides", apart := false, narrowed := true }
def InputsSidesUptoSaid : Prop := inputsSidesUptoRow.holds Try.pinned (OpenSpec.upto inputsSidesSpec)

/-- 'semaphorelaw09.InputsSame', WHERE WHAT IT READS IS OF BULK AT MOST 1048576: true; the input reads as it did. -/
def inputsSameUptoRow : OpenClaim := { program := "ytgepflelaemmnaa", sum := "cc4caecd9318a2bfbc877c768771653d0dc0428e14ab727dc9e2bb49878f5074", func := "semaphore/semaphorelaw09.InputsSame", spec := "inputsSame", apart := false, narrowed := true }
def InputsSameUptoSaid : Prop := inputsSameUptoRow.holds Try.pinned (OpenSpec.upto inputsSameSpec)

/-- 'semaphorelaw09.InputsSafe', WHERE WHAT IT READS IS OF BULK AT MOST 1048576: true; the input reads as it did. -/
def inputsSafeUptoRow : OpenClaim := { program := "ytgepflelaemmnaa", sum := "cc4caecd9318a2bfbc877c768771653d0dc0428e14ab727dc9e2bb49878f5074", func := "semaphore/semaphorelaw09.InputsSafe", spec := "inputsSafe", apart := false, narrowed := true }
def InputsSafeUptoSaid : Prop := inputsSafeUptoRow.holds Try.pinned (OpenSpec.upto inputsSafeSpec)

/-- 'semaphorelaw09.InputsKnown', WHERE WHAT IT READS IS OF BULK AT MOST 1048576: true; the input reads as it did. -/
def inputsKnownUptoRow : OpenClaim := { program := "ytgepflelaemmnaa", sum := "cc4caecd9318a2bfbc877c768771653d0dc0428e14ab727dc9e2bb49878f5074", func := "semaphore/semaphorelaw09.InputsKnown", spec := "inputsKnown", apart := false, narrowed := true }
def InputsKnownUptoSaid : Prop := inputsKnownUptoRow.holds Try.pinned (OpenSpec.upto inputsKnownSpec)

end Rows
end Go.Proofs.Ytgepflelaemmnaa
