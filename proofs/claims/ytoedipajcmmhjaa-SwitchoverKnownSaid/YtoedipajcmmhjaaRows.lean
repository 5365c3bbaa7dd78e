/-
  No cell of these rows narrows 'for every input' (looked for: loops, veiled, ifaces, maps, wideKeys, modest, calm, conditions, laid).
  DERIVED. THE GIVEN ROWS OF THIS SEAT. 2 by the template 'for every input the law returns true; each argument reads behind the call as it read before'; 0 by the template 'total and deterministic' (their statements: YtoedipajcmmhjaaTotals.lean).
  GIVEN WITH THE SEED: the statements are not yours to turn. If you find one false, say at which input.
  Laid BY PROGRAM, IN A SANDBOX (cutbox-rows.mjs): the forced cells as the released guide's own fill.sh prints them over the translation 74a1b888788547a0… (all of the seat's roots in one cut). By AI agents, Wed Nov 11 2026. No macro, syntax, notation, axiom, sorry.
-/
import Derived.Test.YtoedipajcmmhjaaChecked
import GoSem.Claim
import GoSem.ClaimJoined
import GoSem.ClaimMapViews
import Derived.JoinedTies
import Derived.KernelRfl
namespace Go.Proofs.Ytoedipajcmmhjaa
/- THE CELL 'sum', in the pinned program and in every row, IS THE sha256 OF THE DUMP (.gsa) THAT YtoedipajcmmhjaaProg.lean LOADS. Nothing in Lean hashes anything: it is a label: what it is worth is what the hold of that sum in a sandbox is worth. -/
noncomputable def Try.pinned : Pinned := { name := "ytoedipajcmmhjaa", sum := "74a1b888788547a091c76171b59aee1d5f1cb6465fa5df1f10804b8207c0738e", checked := Try.checked }
namespace Rows
def none {H : Type} : Left H := { results := [], args := [] }

/-- 'semaphorelaw26.SwitchoverFences': WHATEVER THE INPUT: true; the input reads as it did. -/
def switchoverFencesSpec : ChangeSpec := { name := "switchoverFences", fn := fun _ => fun
  | [d1, d2, d3] => { results := [.lit (.bool true)], args := [d1, d2, d3] }
  | _ => none }
def switchoverFencesRow : OpenClaim := { program := "ytoedipajcmmhjaa", sum := "74a1b888788547a091c76171b59aee1d5f1cb6465fa5df1f10804b8207c0738e", func := "semaphore/semaphorelaw26.SwitchoverFences", spec := "switchoverFences", unfollowed := true, recurses := true, apart := false }
def SwitchoverFencesSaid : Prop := switchoverFencesRow.holds Try.pinned (OpenSpec.ofChange switchoverFencesSpec)

/-- ITS FALSE NEIGHBOUR: 'it returns false'. Refute it at one input. -/
def switchoverFencesWrong : ChangeSpec := { name := "switchoverFences", fn := fun _ => fun
  | [d1, d2, d3] => { results := [.lit (.bool false)], args := [d1, d2, d3] }
  | _ => none }
def SwitchoverFencesWrongFalsely : Prop := switchoverFencesRow.holds Try.pinned (OpenSpec.ofChange switchoverFencesWrong)

/-- 'semaphorelaw26.SwitchoverKnown': WHATEVER THE INPUT: true; the input reads as it did. -/
def switchoverKnownSpec : ChangeSpec := { name := "switchoverKnown", fn := fun _ => fun
  | [] => { results := [.lit (.bool true)], args := [] }
  | _ => none }
def switchoverKnownRow : OpenClaim := { program := "ytoedipajcmmhjaa", sum := "74a1b888788547a091c76171b59aee1d5f1cb6465fa5df1f10804b8207c0738e", func := "semaphore/semaphorelaw26.SwitchoverKnown", spec := "switchoverKnown", unfollowed := true, recurses := true, apart := false }
def SwitchoverKnownSaid : Prop := switchoverKnownRow.holds Try.pinned (OpenSpec.ofChange switchoverKnownSpec)

/-- ITS FALSE NEIGHBOUR: 'it returns false'. Refute it at one input. -/
def switchoverKnownWrong : ChangeSpec := { name := "switchoverKnown", fn := fun _ => fun
  | [] => { results := [.lit (.bool false)], args := [] }
  | _ => none }
def SwitchoverKnownWrongFalsely : Prop := switchoverKnownRow.holds Try.pinned (OpenSpec.ofChange switchoverKnownWrong)

/- THE SECOND FORM. 'bulk': how many values and letters a reading holds, each counted each time it is reached (what is shared counts as often as it is met; a slice's spare places count too). A statement '..UptoSaid' is the law's where the arguments, and the package variables that the reading takes, are together of bulk at most 1048576: NARROWER than '..Said'. Prove '..Said' where nothing that the law and all that it calls make is longer than what came in: it says more and counts as full. Else prove '..UptoSaid'. A law counts once. -/
mutual
def uptoBulk {H : Type} : DataW H → Nat
  | .lit (.string bytes) => bytes.length + 1
  | .lit _ => 1
  | .nil => 1
  | .ptr d => uptoBulk d + 1
  | .slice elems spare => uptoBulkAll elems + uptoBulkAll spare + 1
  | .agg parts => uptoBulkAll parts + 1
  | .iface _ d => uptoBulk d + 1
  | .map entries => uptoBulkEntries entries + 1
  | .held _ => 1
def uptoBulkAll {H : Type} : List (DataW H) → Nat
  | [] => 0
  | d :: r => uptoBulk d + uptoBulkAll r
def uptoBulkEntries {H : Type} : List (Lit × DataW H) → Nat
  | [] => 0
  | x :: r => uptoBulkEntry x + uptoBulkEntries r
def uptoBulkEntry {H : Type} : Lit × DataW H → Nat
  | (.string bytes, d) => bytes.length + uptoBulk d + 1
  | (_, d) => uptoBulk d + 1
 end
def uptoSmall : (H : Type) → List (DataW H) → Bool := fun _ ds => decide (uptoBulkAll ds ≤ 1048576)
def OpenSpec.upto (s : _root_.Go.ChangeSpec) : _root_.Go.OpenSpec := { _root_.Go.OpenSpec.ofChange s with cond := some uptoSmall }

/-- 'semaphorelaw26.SwitchoverFences', WHERE WHAT IT READS IS OF BULK AT MOST 1048576: true; the input reads as it did. -/
def switchoverFencesUptoRow : OpenClaim := { program := "ytoedipajcmmhjaa", sum := "74a1b888788547a091c76171b59aee1d5f1cb6465fa5df1f10804b8207c0738e", func := "semaphore/semaphorelaw26.SwitchoverFences", spec := "switchoverFences", unfollowed := true, recurses := true, apart := false, narrowed := true }
def SwitchoverFencesUptoSaid : Prop := switchoverFencesUptoRow.holds Try.pinned (OpenSpec.upto switchoverFencesSpec)

/-- 'semaphorelaw26.SwitchoverKnown', WHERE WHAT IT READS IS OF BULK AT MOST 1048576: true; the input reads as it did. -/
def switchoverKnownUptoRow : OpenClaim := { program := "ytoedipajcmmhjaa", sum := "74a1b888788547a091c76171b59aee1d5f1cb6465fa5df1f10804b8207c0738e", func := "semaphore/semaphorelaw26.SwitchoverKnown", spec := "switchoverKnown", unfollowed := true, recurses := true, apart := false, narrowed := true }
def SwitchoverKnownUptoSaid : Prop := switchoverKnownUptoRow.holds Try.pinned (OpenSpec.upto switchoverKnownSpec)

end Rows
end Go.Proofs.Ytoedipajcmmhjaa
