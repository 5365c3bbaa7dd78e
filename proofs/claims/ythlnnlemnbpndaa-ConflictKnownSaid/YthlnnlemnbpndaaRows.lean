/-
  No cell of these rows narrows 'for every input' (looked for: loops, veiled, ifaces, maps, wideKeys, modest, calm, conditions, laid).
  DERIVED. THE GIVEN ROWS OF THIS SEAT. 4 by the template 'for every input the law returns true; each argument reads behind the call as it read before'; 0 by the template 'total and deterministic' (their statements: YthlnnlemnbpndaaTotals.lean).
  GIVEN WITH THE SEED: the statements are not yours to turn. If you find one false, say at which input.
  Laid BY PROGRAM, IN A SANDBOX (cutbox-rows.mjs): the forced cells as the released guide's own fill.sh prints them over the translation 1fb6468e4e87b805… (all of the seat's roots in one cut). By AI agents, Wed Nov 11 2026. No macro, syntax, notation, axiom, sorry.
-/
import Derived.Test.YthlnnlemnbpndaaChecked
import GoSem.Claim
import GoSem.ClaimJoined
import GoSem.ClaimMapViews
import Derived.JoinedTies
import Derived.KernelRfl
namespace Go.Proofs.Ythlnnlemnbpndaa
/- THE CELL 'sum', in the pinned program and in every row, IS THE sha256 OF THE DUMP (.gsa) THAT YthlnnlemnbpndaaProg.lean LOADS. Nothing in Lean hashes anything: it is a label: what it is worth is what the hold of that sum in a sandbox is worth. -/
noncomputable def Try.pinned : Pinned := { name := "ythlnnlemnbpndaa", sum := "1fb6468e4e87b805d969eb4907c507475d0d25d906626e8987c48db40d0fe92e", checked := Try.checked }
namespace Rows
def none {H : Type} : Left H := { results := [], args := [] }

/-- 'semaphorelaw06.ConflictTable': WHATEVER THE INPUT: true; the input reads as it did. -/
def conflictTableSpec : ChangeSpec := { name := "conflictTable", fn := fun _ => fun
  | [d] => { results := [.lit (.bool true)], args := [d] }
  | _ => none }
def conflictTableRow : OpenClaim := { program := "ythlnnlemnbpndaa", sum := "1fb6468e4e87b805d969eb4907c507475d0d25d906626e8987c48db40d0fe92e", func := "semaphore/semaphorelaw06.ConflictTable", spec := "conflictTable", unfollowed := true, recurses := true, apart := false }
def ConflictTableSaid : Prop := conflictTableRow.holds Try.pinned (OpenSpec.ofChange conflictTableSpec)

/-- ITS FALSE NEIGHBOUR: 'it returns false'. Refute it at one input. -/
def conflictTableWrong : ChangeSpec := { name := "conflictTable", fn := fun _ => fun
  | [d] => { results := [.lit (.bool false)], args := [d] }
  | _ => none }
def ConflictTableWrongFalsely : Prop := conflictTableRow.holds Try.pinned (OpenSpec.ofChange conflictTableWrong)

/-- 'semaphorelaw06.ConflictBoth': WHATEVER THE INPUT: true; the input reads as it did. -/
def conflictBothSpec : ChangeSpec := { name := "conflictBoth", fn := fun _ => fun
  | [d] => { results := [.lit (.bool true)], args := [d] }
  | _ => none }
def conflictBothRow : OpenClaim := { program := "ythlnnlemnbpndaa", sum := "1fb6468e4e87b805d969eb4907c507475d0d25d906626e8987c48db40d0fe92e", func := "semaphore/semaphorelaw06.ConflictBoth", spec := "conflictBoth", unfollowed := true, recurses := true, apart := false }
def ConflictBothSaid : Prop := conflictBothRow.holds Try.pinned (OpenSpec.ofChange conflictBothSpec)

/-- ITS FALSE NEIGHBOUR: 'it returns false'. Refute it at one input. -/
def conflictBothWrong : ChangeSpec := { name := "conflictBoth", fn := fun _ => fun
  | [d] => { results := [.lit (.bool false)], args := [d] }
  | _ => none }
def ConflictBothWrongFalsely : Prop := conflictBothRow.holds Try.pinned (OpenSpec.ofChange conflictBothWrong)

/-- 'semaphorelaw06.ConflictApart': WHATEVER THE INPUT: true; the input reads as it did. -/
def conflictApartSpec : ChangeSpec := { name := "conflictApart", fn := fun _ => fun
  | [d1, d2, d3] => { results := [.lit (.bool true)], args := [d1, d2, d3] }
  | _ => none }
def conflictApartRow : OpenClaim := { program := "ythlnnlemnbpndaa", sum := "1fb6468e4e87b805d969eb4907c507475d0d25d906626e8987c48db40d0fe92e", func := "semaphore/semaphorelaw06.ConflictApart", spec := "conflictApart", unfollowed := true, recurses := true, apart := false }
def ConflictApartSaid : Prop := conflictApartRow.holds Try.pinned (OpenSpec.ofChange conflictApartSpec)

/-- ITS FALSE NEIGHBOUR: 'it returns false'. Refute it at one input. -/
def conflictApartWrong : ChangeSpec := { name := "conflictApart", fn := fun _ => fun
  | [d1, d2, d3] => { results := [.lit (.bool false)], args := [d1, d2, d3] }
  | _ => none }
def ConflictApartWrongFalsely : Prop := conflictApartRow.holds Try.pinned (OpenSpec.ofChange conflictApartWrong)

/-- 'semaphorelaw06.ConflictKnown': WHATEVER THE INPUT: true; the input reads as it did. -/
def conflictKnownSpec : ChangeSpec := { name := "conflictKnown", fn := fun _ => fun
  | [] => { results := [.lit (.bool true)], args := [] }
  | _ => none }
def conflictKnownRow : OpenClaim := { program := "ythlnnlemnbpndaa", sum := "1fb6468e4e87b805d969eb4907c507475d0d25d906626e8987c48db40d0fe92e", func := "semaphore/semaphorelaw06.ConflictKnown", spec := "conflictKnown", unfollowed := true, recurses := true, apart := false }
def ConflictKnownSaid : Prop := conflictKnownRow.holds Try.pinned (OpenSpec.ofChange conflictKnownSpec)

/-- ITS FALSE NEIGHBOUR: 'it returns false'. Refute it at one input. -/
def conflictKnownWrong : ChangeSpec := { name := "conflictKnown", fn := fun _ => fun
  | [] => { results := [.lit (.bool false)], args := [] }
  | _ => none }
def ConflictKnownWrongFalsely : Prop := conflictKnownRow.holds Try.pinned (OpenSpec.ofChange conflictKnownWrong)

/- THE SECOND FORM. 'bulk': how many values and letters a reading holds, each counted each time it is reached (what is shared counts as often as it is met; a slice's spare places count too). A statement '..UptoSaid' is the law's where the arguments, and the package variables that the reading takes, are together of bulk at most 1048576: NARROWER than '..Said'. Prove '..Said' where nothing that the law and all that it calls make is longer than what came in: it says more and counts as full. Else prove '..UptoSaid'. A law counts once. -/
mutual
def uptoBulk {H : Type} : DataW H → Nat
  | .lit (.string bytes) => bytes.length + 1
  | .lit _ => 1
  | .nil => 1
  | .ptr d => uptoBulk d + 1
  | .slice elems spare => uptoBulkAll elems + uptoBulkAll spare + 1
  | .agg parts => uptoBulkAll parts + 1
  | .iface _ d => uptoBulk d + 1
  | .map entries => uptoBulkEntries entries + 1
  | .held _ => 1
def uptoBulkAll {H : Type} : List (DataW H) → Nat
  | [] => 0
  | d :: r => uptoBulk d + uptoBulkAll r
def uptoBulkEntries {H : Type} : List (Lit × DataW H) → Nat
  | [] => 0
  | x :: r => uptoBulkEntry x + uptoBulkEntries r
def uptoBulkEntry {H : Type} : Lit × DataW H → Nat
  | (.string bytes, d) => bytes.length + uptoBulk d + 1
  | (_, d) => uptoBulk d + 1
 end
def uptoSmall : (H : Type) → List (DataW H) → Bool := fun _ ds => decide (uptoBulkAll ds ≤ 1048576)
def OpenSpec.upto (s : _root_.Go.ChangeSpec) : _root_.Go.OpenSpec := { _root_.Go.OpenSpec.ofChange s with cond := some uptoSmall }

/-- 'semaphorelaw06.ConflictTable', WHERE WHAT IT READS IS OF BULK AT MOST 1048576: true; the input reads as it did. -/
def conflictTableUptoRow : OpenClaim := { program := "ythlnnlemnbpndaa", sum := "1fb6468e4e87b805d969eb4907c507475d0d25d906626e8987c48db40d0fe92e", func := "semaphore/semaphorelaw06.ConflictTable", spec := "conflictTable", unfollowed := true, recurses := true, apart := false, narrowed := true }
def ConflictTableUptoSaid : Prop := conflictTableUptoRow.holds Try.pinned (OpenSpec.upto conflictTableSpec)

/-- 'semaphorelaw06.ConflictBoth', WHERE WHAT IT READS IS OF BULK AT MOST 1048576: true; the input reads as it did. -/
def conflictBothUptoRow : OpenClaim := { program := "ythlnnlemnbpndaa", sum := "1fb6468e4e87b805d969eb4907c507475d0d25d906626e8987c48db40d0fe92e", func := "semaphore/semaphorelaw06.ConflictBoth", spec := "conflictBoth", unfollowed := true, recurses := true, apart := false, narrowed := true }
def ConflictBothUptoSaid : Prop := conflictBothUptoRow.holds Try.pinned (OpenSpec.upto conflictBothSpec)

/-- 'semaphorelaw06.ConflictApart', WHERE WHAT IT READS IS OF BULK AT MOST 1048576: true; the input reads as it did. -/
def conflictApartUptoRow : OpenClaim := { program := "ythlnnlemnbpndaa", sum := "1fb6468e4e87b805d969eb4907c507475d0d25d906626e8987c48db40d0fe92e", func := "semaphore/semaphorelaw06.ConflictApart", spec := "conflictApart", unfollowed := true, recurses := true, apart := false, narrowed := true }
def ConflictApartUptoSaid : Prop := conflictApartUptoRow.holds Try.pinned (OpenSpec.upto conflictApartSpec)

/-- 'semaphorelaw06.ConflictKnown', WHERE WHAT IT READS IS OF BULK AT MOST 1048576: true; the input reads as it did. -/
def conflictKnownUptoRow : OpenClaim := { program := "ythlnnlemnbpndaa", sum := "1fb6468e4e87b805d969eb4907c507475d0d25d906626e8987c48db40d0fe92e", func := "semaphore/semaphorelaw06.ConflictKnown", spec := "conflictKnown", unfollowed := true, recurses := true, apart := false, narrowed := true }
def ConflictKnownUptoSaid : Prop := conflictKnownUptoRow.holds Try.pinned (OpenSpec.upto conflictKnownSpec)

end Rows
end Go.Proofs.Ythlnnlemnbpndaa
