/-
  No cell of these rows narrows 'for every input' (looked for: loops, veiled, ifaces, maps, wideKeys, modest, calm, conditions, laid).
  DERIVED. THE GIVEN ROWS OF THIS SEAT. 5 by the template 'for every input the law returns true; each argument reads behind the call as it read before'; 0 by the template 'total and deterministic' (their statements: YthnpekbmaapgnaaTotals.lean).
  GIVEN WITH THE SEED: the statements are not yours to turn. If you find one false, say at which input.
  Laid BY PROGRAM, IN A SANDBOX (cutbox-rows.mjs): the forced cells as the released guide's own fill.sh prints them over the translation 7b91fc24c0f44650… (all of the seat's roots in one cut). By AI agents, Wed Nov 11 2026. No macro, syntax, notation, axiom, sorry.
-/
import Derived.Test.YthnpekbmaapgnaaChecked
import GoSem.Claim
import GoSem.ClaimJoined
import GoSem.ClaimMapViews
import Derived.JoinedTies
import Derived.KernelRfl
namespace Go.Proofs.Ythnpekbmaapgnaa
/- THE CELL 'sum', in the pinned program and in every row, IS THE sha256 OF THE DUMP (.gsa) THAT YthnpekbmaapgnaaProg.lean LOADS. Nothing in Lean hashes anything: it is a label: what it is worth is what the hold of that sum in a sandbox is worth. -/
noncomputable def Try.pinned : Pinned := { name := "ythnpekbmaapgnaa", sum := "7b91fc24c0f44650525ca217b7ce6e8bcf4be135b5d53e1698bbf434fea76e58", checked := Try.checked }
namespace Rows
def none {H : Type} : Left H := { results := [], args := [] }

/-- 'semaphorelaw29.SafetyCycle': WHATEVER THE INPUT: true; the input reads as it did. -/
def safetyCycleSpec : ChangeSpec := { name := "safetyCycle", fn := fun _ => fun
  | [d1, d2, d3] => { results := [.lit (.bool true)], args := [d1, d2, d3] }
  | _ => none }
def safetyCycleRow : OpenClaim := { program := "ythnpekbmaapgnaa", sum := "7b91fc24c0f44650525ca217b7ce6e8bcf4be135b5d53e1698bbf434fea76e58", func := "semaphore/semaphorelaw29.SafetyCycle", spec := "safetyCycle", unfollowed := true, recurses := true, apart := false }
def SafetyCycleSaid : Prop := safetyCycleRow.holds Try.pinned (OpenSpec.ofChange safetyCycleSpec)

/-- ITS FALSE NEIGHBOUR: 'it returns false'. Refute it at one input. -/
def safetyCycleWrong : ChangeSpec := { name := "safetyCycle", fn := fun _ => fun
  | [d1, d2, d3] => { results := [.lit (.bool false)], args := [d1, d2, d3] }
  | _ => none }
def SafetyCycleWrongFalsely : Prop := safetyCycleRow.holds Try.pinned (OpenSpec.ofChange safetyCycleWrong)

/-- 'semaphorelaw29.SafetyLess': WHATEVER THE INPUT: true; the input reads as it did. -/
def safetyLessSpec : ChangeSpec := { name := "safetyLess", fn := fun _ => fun
  | [d1, d2, d3, d4] => { results := [.lit (.bool true)], args := [d1, d2, d3, d4] }
  | _ => none }
def safetyLessRow : OpenClaim := { program := "ythnpekbmaapgnaa", sum := "7b91fc24c0f44650525ca217b7ce6e8bcf4be135b5d53e1698bbf434fea76e58", func := "semaphore/semaphorelaw29.SafetyLess", spec := "safetyLess", unfollowed := true, recurses := true, apart := false }
def SafetyLessSaid : Prop := safetyLessRow.holds Try.pinned (OpenSpec.ofChange safetyLessSpec)

/-- ITS FALSE NEIGHBOUR: 'it returns false'. Refute it at one input. -/
def safetyLessWrong : ChangeSpec := { name := "safetyLess", fn := fun _ => fun
  | [d1, d2, d3, d4] => { results := [.lit (.bool false)], args := [d1, d2, d3, d4] }
  | _ => none }
def SafetyLessWrongFalsely : Prop := safetyLessRow.holds Try.pinned (OpenSpec.ofChange safetyLessWrong)

/-- 'semaphorelaw29.SafetyRow': WHATEVER THE INPUT: true; the input reads as it did. -/
def safetyRowSpec : ChangeSpec := { name := "safetyRow", fn := fun _ => fun
  | [d1, d2, d3] => { results := [.lit (.bool true)], args := [d1, d2, d3] }
  | _ => none }
def safetyRowRow : OpenClaim := { program := "ythnpekbmaapgnaa", sum := "7b91fc24c0f44650525ca217b7ce6e8bcf4be135b5d53e1698bbf434fea76e58", func := "semaphore/semaphorelaw29.SafetyRow", spec := "safetyRow", unfollowed := true, recurses := true, apart := false }
def SafetyRowSaid : Prop := safetyRowRow.holds Try.pinned (OpenSpec.ofChange safetyRowSpec)

/-- ITS FALSE NEIGHBOUR: 'it returns false'. Refute it at one input. -/
def safetyRowWrong : ChangeSpec := { name := "safetyRow", fn := fun _ => fun
  | [d1, d2, d3] => { results := [.lit (.bool false)], args := [d1, d2, d3] }
  | _ => none }
def SafetyRowWrongFalsely : Prop := safetyRowRow.holds Try.pinned (OpenSpec.ofChange safetyRowWrong)

/-- 'semaphorelaw29.SafetyKnown': WHATEVER THE INPUT: true; the input reads as it did. -/
def safetyKnownSpec : ChangeSpec := { name := "safetyKnown", fn := fun _ => fun
  | [] => { results := [.lit (.bool true)], args := [] }
  | _ => none }
def safetyKnownRow : OpenClaim := { program := "ythnpekbmaapgnaa", sum := "7b91fc24c0f44650525ca217b7ce6e8bcf4be135b5d53e1698bbf434fea76e58", func := "semaphore/semaphorelaw29.SafetyKnown", spec := "safetyKnown", unfollowed := true, recurses := true, apart := false }
def SafetyKnownSaid : Prop := safetyKnownRow.holds Try.pinned (OpenSpec.ofChange safetyKnownSpec)

/-- ITS FALSE NEIGHBOUR: 'it returns false'. Refute it at one input. -/
def safetyKnownWrong : ChangeSpec := { name := "safetyKnown", fn := fun _ => fun
  | [] => { results := [.lit (.bool false)], args := [] }
  | _ => none }
def SafetyKnownWrongFalsely : Prop := safetyKnownRow.holds Try.pinned (OpenSpec.ofChange safetyKnownWrong)

/-- 'semaphorelaw29.SafetyHolds': WHATEVER THE INPUT: true; the input reads as it did. -/
def safetyHoldsSpec : ChangeSpec := { name := "safetyHolds", fn := fun _ => fun
  | [d1, d2] => { results := [.lit (.bool true)], args := [d1, d2] }
  | _ => none }
def safetyHoldsRow : OpenClaim := { program := "ythnpekbmaapgnaa", sum := "7b91fc24c0f44650525ca217b7ce6e8bcf4be135b5d53e1698bbf434fea76e58", func := "semaphore/semaphorelaw29.SafetyHolds", spec := "safetyHolds", unfollowed := true, recurses := true, apart := false }
def SafetyHoldsSaid : Prop := safetyHoldsRow.holds Try.pinned (OpenSpec.ofChange safetyHoldsSpec)

/-- ITS FALSE NEIGHBOUR: 'it returns false'. Refute it at one input. -/
def safetyHoldsWrong : ChangeSpec := { name := "safetyHolds", fn := fun _ => fun
  | [d1, d2] => { results := [.lit (.bool false)], args := [d1, d2] }
  | _ => none }
def SafetyHoldsWrongFalsely : Prop := safetyHoldsRow.holds Try.pinned (OpenSpec.ofChange safetyHoldsWrong)

/- THE SECOND FORM. 'bulk': how many values and letters a reading holds, each counted each time it is reached (what is shared counts as often as it is met; a slice's spare places count too). A statement '..UptoSaid' is the law's where the arguments, and the package variables that the reading takes, are together of bulk at most 1048576: NARROWER than '..Said'. Prove '..Said' where nothing that the law and all that it calls make is longer than what came in: it says more and counts as full. Else prove '..UptoSaid'. A law counts once. -/
mutual
def uptoBulk {H : Type} : DataW H → Nat
  | .lit (.string bytes) => bytes.length + 1
  | .lit _ => 1
  | .nil => 1
  | .ptr d => uptoBulk d + 1
  | .slice elems spare => uptoBulkAll elems + uptoBulkAll spare + 1
  | .agg parts => uptoBulkAll parts + 1
  | .iface _ d => uptoBulk d + 1
  | .map entries => uptoBulkEntries entries + 1
  | .held _ => 1
def uptoBulkAll {H : Type} : List (DataW H) → Nat
  | [] => 0
  | d :: r => uptoBulk d + uptoBulkAll r
def uptoBulkEntries {H : Type} : List (Lit × DataW H) → Nat
  | [] => 0
  | x :: r => uptoBulkEntry x + uptoBulkEntries r
def uptoBulkEntry {H : Type} : Lit × DataW H → Nat
  | (.string bytes, d) => bytes.length + uptoBulk d + 1
  | (_, d) => uptoBulk d + 1
 end
def uptoSmall : (H : Type) → List (DataW H) → Bool := fun _ ds => decide (uptoBulkAll ds ≤ 1048576)
def OpenSpec.upto (s : _root_.Go.ChangeSpec) : _root_.Go.OpenSpec := { _root_.Go.OpenSpec.ofChange s with cond := some uptoSmall }

/-- 'semaphorelaw29.SafetyCycle', WHERE WHAT IT READS IS OF BULK AT MOST 1048576: true; the input reads as it did. -/
def safetyCycleUptoRow : OpenClaim := { program := "ythnpekbmaapgnaa", sum := "7b91fc24c0f44650525ca217b7ce6e8bcf4be135b5d53e1698bbf434fea76e58", func := "semaphore/semaphorelaw29.SafetyCycle", spec := "safetyCycle", unfollowed := true, recurses := true, apart := false, narrowed := true }
def SafetyCycleUptoSaid : Prop := safetyCycleUptoRow.holds Try.pinned (OpenSpec.upto safetyCycleSpec)

/-- 'semaphorelaw29.SafetyLess', WHERE WHAT IT READS IS OF BULK AT MOST 1048576: true; the input reads as it did. -/
def safetyLessUptoRow : OpenClaim := { program := "ythnpekbmaapgnaa", sum := "7b91fc24c0f44650525ca217b7ce6e8bcf4be135b5d53e1698bbf434fea76e58", func := "semaphore/semaphorelaw29.SafetyLess", spec := "safetyLess", unfollowed := true, recurses := true, apart := false, narrowed := true }
def SafetyLessUptoSaid : Prop := safetyLessUptoRow.holds Try.pinned (OpenSpec.upto safetyLessSpec)

/-- 'semaphorelaw29.SafetyRow', WHERE WHAT IT READS IS OF BULK AT MOST 1048576: true; the input reads as it did. -/
def safetyRowUptoRow : OpenClaim := { program := "ythnpekbmaapgnaa", sum := "7b91fc24c0f44650525ca217b7ce6e8bcf4be135b5d53e1698bbf434fea76e58", func := "semaphore/semaphorelaw29.SafetyRow", spec := "safetyRow", unfollowed := true, recurses := true, apart := false, narrowed := true }
def SafetyRowUptoSaid : Prop := safetyRowUptoRow.holds Try.pinned (OpenSpec.upto safetyRowSpec)

/-- 'semaphorelaw29.SafetyKnown', WHERE WHAT IT READS IS OF BULK AT MOST 1048576: true; the input reads as it did. -/
def safetyKnownUptoRow : OpenClaim := { program := "ythnpekbmaapgnaa", sum := "7b91fc24c0f44650525ca217b7ce6e8bcf4be135b5d53e1698bbf434fea76e58", func := "semaphore/semaphorelaw29.SafetyKnown", spec := "safetyKnown", unfollowed := true, recurses := true, apart := false, narrowed := true }
def SafetyKnownUptoSaid : Prop := safetyKnownUptoRow.holds Try.pinned (OpenSpec.upto safetyKnownSpec)

/-- 'semaphorelaw29.SafetyHolds', WHERE WHAT IT READS IS OF BULK AT MOST 1048576: true; the input reads as it did. -/
def safetyHoldsUptoRow : OpenClaim := { program := "ythnpekbmaapgnaa", sum := "7b91fc24c0f44650525ca217b7ce6e8bcf4be135b5d53e1698bbf434fea76e58", func := "semaphore/semaphorelaw29.SafetyHolds", spec := "safetyHolds", unfollowed := true, recurses := true, apart := false, narrowed := true }
def SafetyHoldsUptoSaid : Prop := safetyHoldsUptoRow.holds Try.pinned (OpenSpec.upto safetyHoldsSpec)

end Rows
end Go.Proofs.Ythnpekbmaapgnaa
