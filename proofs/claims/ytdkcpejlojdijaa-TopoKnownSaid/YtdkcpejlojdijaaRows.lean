/-
  No cell of these rows narrows 'for every input' (looked for: loops, veiled, ifaces, maps, wideKeys, modest, calm, conditions, laid).
  DERIVED. THE GIVEN ROWS OF THIS SEAT. 5 by the template 'for every input the law returns true; each argument reads behind the call as it read before'; 0 by the template 'total and deterministic' (their statements: YtdkcpejlojdijaaTotals.lean).
  GIVEN WITH THE SEED: the statements are not yours to turn. If you find one false, say at which input.
  Laid BY PROGRAM, IN A SANDBOX (cutbox-rows.mjs): the forced cells as the released guide's own fill.sh prints them over the translation 7afd8e8c798aa3c2… (all of the seat's roots in one cut). By AI agents, Wed Nov 11 2026. No macro, syntax, notation, axiom, sorry.
-/
import Derived.Test.YtdkcpejlojdijaaChecked
import GoSem.Claim
import GoSem.ClaimJoined
import GoSem.ClaimMapViews
import Derived.JoinedTies
import Derived.KernelRfl
namespace Go.Proofs.Ytdkcpejlojdijaa
/- THE CELL 'sum', in the pinned program and in every row, IS THE sha256 OF THE DUMP (.gsa) THAT YtdkcpejlojdijaaProg.lean LOADS. Nothing in Lean hashes anything: it is a label: what it is worth is what the hold of that sum in a sandbox is worth. -/
noncomputable def Try.pinned : Pinned := { name := "ytdkcpejlojdijaa", sum := "7afd8e8c798aa3c2b63f47d2043b599dd9663c7b28763ed0cf43f46937b42482", checked := Try.checked }
namespace Rows
def none {H : Type} : Left H := { results := [], args := [] }

/-- 'semaphorelaw05.TopoParts': WHATEVER THE INPUT: true; the input reads as it did. -/
def topoPartsSpec : ChangeSpec := { name := "topoParts", fn := fun _ => fun
  | [d] => { results := [.lit (.bool true)], args := [d] }
  | _ => none }
def topoPartsRow : OpenClaim := { program := "ytdkcpejlojdijaa", sum := "7afd8e8c798aa3c2b63f47d2043b599dd9663c7b28763ed0cf43f46937b42482", func := "semaphore/semaphorelaw05.TopoParts", spec := "topoParts", unfollowed := true, recurses := true, apart := false }
def TopoPartsSaid : Prop := topoPartsRow.holds Try.pinned (OpenSpec.ofChange topoPartsSpec)

/-- ITS FALSE NEIGHBOUR: 'it returns false'. Refute it at one input. -/
def topoPartsWrong : ChangeSpec := { name := "topoParts", fn := fun _ => fun
  | [d] => { results := [.lit (.bool false)], args := [d] }
  | _ => none }
def TopoPartsWrongFalsely : Prop := topoPartsRow.holds Try.pinned (OpenSpec.ofChange topoPartsWrong)

/-- 'semaphorelaw05.TopoCheck': WHATEVER THE INPUT: true; the input reads as it did. -/
def topoCheckSpec : ChangeSpec := { name := "topoCheck", fn := fun _ => fun
  | [d] => { results := [.lit (.bool true)], args := [d] }
  | _ => none }
def topoCheckRow : OpenClaim := { program := "ytdkcpejlojdijaa", sum := "7afd8e8c798aa3c2b63f47d2043b599dd9663c7b28763ed0cf43f46937b42482", func := "semaphore/semaphorelaw05.TopoCheck", spec := "topoCheck", unfollowed := true, recurses := true, apart := false }
def TopoCheckSaid : Prop := topoCheckRow.holds Try.pinned (OpenSpec.ofChange topoCheckSpec)

/-- ITS FALSE NEIGHBOUR: 'it returns false'. Refute it at one input. -/
def topoCheckWrong : ChangeSpec := { name := "topoCheck", fn := fun _ => fun
  | [d] => { results := [.lit (.bool false)], args := [d] }
  | _ => none }
def TopoCheckWrongFalsely : Prop := topoCheckRow.holds Try.pinned (OpenSpec.ofChange topoCheckWrong)

/-- 'semaphorelaw05.TopoRoute': WHATEVER THE INPUT: true; the input reads as it did. -/
def topoRouteSpec : ChangeSpec := { name := "topoRoute", fn := fun _ => fun
  | [d1, d2] => { results := [.lit (.bool true)], args := [d1, d2] }
  | _ => none }
def topoRouteRow : OpenClaim := { program := "ytdkcpejlojdijaa", sum := "7afd8e8c798aa3c2b63f47d2043b599dd9663c7b28763ed0cf43f46937b42482", func := "semaphore/semaphorelaw05.TopoRoute", spec := "topoRoute", unfollowed := true, recurses := true, apart := false }
def TopoRouteSaid : Prop := topoRouteRow.holds Try.pinned (OpenSpec.ofChange topoRouteSpec)

/-- ITS FALSE NEIGHBOUR: 'it returns false'. Refute it at one input. -/
def topoRouteWrong : ChangeSpec := { name := "topoRoute", fn := fun _ => fun
  | [d1, d2] => { results := [.lit (.bool false)], args := [d1, d2] }
  | _ => none }
def TopoRouteWrongFalsely : Prop := topoRouteRow.holds Try.pinned (OpenSpec.ofChange topoRouteWrong)

/-- 'semaphorelaw05.TopoLess': WHATEVER THE INPUT: true; the input reads as it did. -/
def topoLessSpec : ChangeSpec := { name := "topoLess", fn := fun _ => fun
  | [d1, d2] => { results := [.lit (.bool true)], args := [d1, d2] }
  | _ => none }
def topoLessRow : OpenClaim := { program := "ytdkcpejlojdijaa", sum := "7afd8e8c798aa3c2b63f47d2043b599dd9663c7b28763ed0cf43f46937b42482", func := "semaphore/semaphorelaw05.TopoLess", spec := "topoLess", unfollowed := true, recurses := true, apart := false }
def TopoLessSaid : Prop := topoLessRow.holds Try.pinned (OpenSpec.ofChange topoLessSpec)

/-- ITS FALSE NEIGHBOUR: 'it returns false'. Refute it at one input. -/
def topoLessWrong : ChangeSpec := { name := "topoLess", fn := fun _ => fun
  | [d1, d2] => { results := [.lit (.bool false)], args := [d1, d2] }
  | _ => none }
def TopoLessWrongFalsely : Prop := topoLessRow.holds Try.pinned (OpenSpec.ofChange topoLessWrong)

/-- 'semaphorelaw05.TopoKnown': WHATEVER THE INPUT: true; the input reads as it did. -/
def topoKnownSpec : ChangeSpec := { name := "topoKnown", fn := fun _ => fun
  | [] => { results := [.lit (.bool true)], args := [] }
  | _ => none }
def topoKnownRow : OpenClaim := { program := "ytdkcpejlojdijaa", sum := "7afd8e8c798aa3c2b63f47d2043b599dd9663c7b28763ed0cf43f46937b42482", func := "semaphore/semaphorelaw05.TopoKnown", spec := "topoKnown", unfollowed := true, recurses := true, apart := false }
def TopoKnownSaid : Prop := topoKnownRow.holds Try.pinned (OpenSpec.ofChange topoKnownSpec)

/-- ITS FALSE NEIGHBOUR: 'it returns false'. Refute it at one input. -/
def topoKnownWrong : ChangeSpec := { name := "topoKnown", fn := fun _ => fun
  | [] => { results := [.lit (.bool false)], args := [] }
  | _ => none }
def TopoKnownWrongFalsely : Prop := topoKnownRow.holds Try.pinned (OpenSpec.ofChange topoKnownWrong)

/- THE SECOND FORM. 'bulk': how many values and letters a reading holds, each counted each time it is reached (what is shared counts as often as it is met; a slice's spare places count too). A statement '..UptoSaid' is the law's where the arguments, and the package variables that the reading takes, are together of bulk at most 1048576: NARROWER than '..Said'. Prove '..Said' where nothing that the law and all that it calls make is longer than what came in: it says more and counts as full. Else prove '..UptoSaid'. A law counts once. -/
mutual
def uptoBulk {H : Type} : DataW H → Nat
  | .lit (.string bytes) => bytes.length + 1
  | .lit _ => 1
  | .nil => 1
  | .ptr d => uptoBulk d + 1
  | .slice elems spare => uptoBulkAll elems + uptoBulkAll spare + 1
  | .agg parts => uptoBulkAll parts + 1
  | .iface _ d => uptoBulk d + 1
  | .map entries => uptoBulkEntries entries + 1
  | .held _ => 1
def uptoBulkAll {H : Type} : List (DataW H) → Nat
  | [] => 0
  | d :: r => uptoBulk d + uptoBulkAll r
def uptoBulkEntries {H : Type} : List (Lit × DataW H) → Nat
  | [] => 0
  | x :: r => uptoBulkEntry x + uptoBulkEntries r
def uptoBulkEntry {H : Type} : Lit × DataW H → Nat
  | (.string bytes, d) => bytes.length + uptoBulk d + 1
  | (_, d) => uptoBulk d + 1
 end
def uptoSmall : (H : Type) → List (DataW H) → Bool := fun _ ds => decide (uptoBulkAll ds ≤ 1048576)
def OpenSpec.upto (s : _root_.Go.ChangeSpec) : _root_.Go.OpenSpec := { _root_.Go.OpenSpec.ofChange s with cond := some uptoSmall }

/-- 'semaphorelaw05.TopoParts', WHERE WHAT IT READS IS OF BULK AT MOST 1048576: true; the input reads as it did. -/
def topoPartsUptoRow : OpenClaim := { program := "ytdkcpejlojdijaa", sum := "7afd8e8c798aa3c2b63f47d2043b599dd9663c7b28763ed0cf43f46937b42482", func := "semaphore/semaphorelaw05.TopoParts", spec := "topoParts", unfollowed := true, recurses := true, apart := false, narrowed := true }
def TopoPartsUptoSaid : Prop := topoPartsUptoRow.holds Try.pinned (OpenSpec.upto topoPartsSpec)

/-- 'semaphorelaw05.TopoCheck', WHERE WHAT IT READS IS OF BULK AT MOST 1048576: true; the input reads as it did. -/
def topoCheckUptoRow : OpenClaim := { program := "ytdkcpejlojdijaa", sum := "7afd8e8c798aa3c2b63f47d2043b599dd9663c7b28763ed0cf43f46937b42482", func := "semaphore/semaphorelaw05.TopoCheck", spec := "topoCheck", unfollowed := true, recurses := true, apart := false, narrowed := true }
def TopoCheckUptoSaid : Prop := topoCheckUptoRow.holds Try.pinned (OpenSpec.upto topoCheckSpec)

/-- 'semaphorelaw05.TopoRoute', WHERE WHAT IT READS IS OF BULK AT MOST 1048576: true; the input reads as it did. -/
def topoRouteUptoRow : OpenClaim := { program := "ytdkcpejlojdijaa", sum := "7afd8e8c798aa3c2b63f47d2043b599dd9663c7b28763ed0cf43f46937b42482", func := "semaphore/semaphorelaw05.TopoRoute", spec := "topoRoute", unfollowed := true, recurses := true, apart := false, narrowed := true }
def TopoRouteUptoSaid : Prop := topoRouteUptoRow.holds Try.pinned (OpenSpec.upto topoRouteSpec)

/-- 'semaphorelaw05.TopoLess', WHERE WHAT IT READS IS OF BULK AT MOST 1048576: true; the input reads as it did. -/
def topoLessUptoRow : OpenClaim := { program := "ytdkcpejlojdijaa", sum := "7afd8e8c798aa3c2b63f47d2043b599dd9663c7b28763ed0cf43f46937b42482", func := "semaphore/semaphorelaw05.TopoLess", spec := "topoLess", unfollowed := true, recurses := true, apart := false, narrowed := true }
def TopoLessUptoSaid : Prop := topoLessUptoRow.holds Try.pinned (OpenSpec.upto topoLessSpec)

/-- 'semaphorelaw05.TopoKnown', WHERE WHAT IT READS IS OF BULK AT MOST 1048576: true; the input reads as it did. -/
def topoKnownUptoRow : OpenClaim := { program := "ytdkcpejlojdijaa", sum := "7afd8e8c798aa3c2b63f47d2043b599dd9663c7b28763ed0cf43f46937b42482", func := "semaphore/semaphorelaw05.TopoKnown", spec := "topoKnown", unfollowed := true, recurses := true, apart := false, narrowed := true }
def TopoKnownUptoSaid : Prop := topoKnownUptoRow.holds Try.pinned (OpenSpec.upto topoKnownSpec)

end Rows
end Go.Proofs.Ytdkcpejlojdijaa
