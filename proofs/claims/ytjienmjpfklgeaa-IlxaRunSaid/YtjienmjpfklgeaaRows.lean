/-
  No cell of these rows narrows 'for every input' (looked for: loops, veiled, ifaces, maps, wideKeys, modest, calm, conditions, laid).
  DERIVED. THE GIVEN ROWS OF THIS SEAT. 5 by the template 'for every input the law returns true; each argument reads behind the call as it read before'; 0 by the template 'total and deterministic' (their statements: YtjienmjpfklgeaaTotals.lean).
  GIVEN WITH THE SEED: the statements are not yours to turn. If you find one false, say at which input.
  Laid BY PROGRAM, IN A SANDBOX (cutbox-rows.mjs): the forced cells as the released guide's own fill.sh prints them over the translation 23d9633601375e68… (all of the seat's roots in one cut). By AI agents, Wed Nov 11 2026. No macro, syntax, notation, axiom, sorry.
-/
import Derived.Test.YtjienmjpfklgeaaChecked
import GoSem.Claim
import GoSem.ClaimJoined
import GoSem.ClaimMapViews
import Derived.JoinedTies
import Derived.KernelRfl
namespace Go.Proofs.Ytjienmjpfklgeaa
/- THE CELL 'sum', in the pinned program and in every row, IS THE sha256 OF THE DUMP (.gsa) THAT YtjienmjpfklgeaaProg.lean LOADS. Nothing in Lean hashes anything: it is a label: what it is worth is what the hold of that sum in a sandbox is worth. -/
noncomputable def Try.pinned : Pinned := { name := "ytjienmjpfklgeaa", sum := "23d9633601375e68dd497f7ba6371dafd0db594971c7bffb8672052ca1ec83f3", checked := Try.checked }
namespace Rows
def none {H : Type} : Left H := { results := [], args := [] }

/-- 'semaphorelaw10.IlxaStep': WHATEVER THE INPUT: true; the input reads as it did. -/
def ilxaStepSpec : ChangeSpec := { name := "ilxaStep", fn := fun _ => fun
  | [d1, d2, d3] => { results := [.lit (.bool true)], args := [d1, d2, d3] }
  | _ => none }
def ilxaStepRow : OpenClaim := { program := "ytjienmjpfklgeaa", sum := "23d9633601375e68dd497f7ba6371dafd0db594971c7bffb8672052ca1ec83f3", func := "semaphore/semaphorelaw10.IlxaStep", spec := "ilxaStep", unfollowed := true, recurses := true, apart := false }
def IlxaStepSaid : Prop := ilxaStepRow.holds Try.pinned (OpenSpec.ofChange ilxaStepSpec)

/-- ITS FALSE NEIGHBOUR: 'it returns false'. Refute it at one input. -/
def ilxaStepWrong : ChangeSpec := { name := "ilxaStep", fn := fun _ => fun
  | [d1, d2, d3] => { results := [.lit (.bool false)], args := [d1, d2, d3] }
  | _ => none }
def IlxaStepWrongFalsely : Prop := ilxaStepRow.holds Try.pinned (OpenSpec.ofChange ilxaStepWrong)

/-- 'semaphorelaw10.IlxaNew': WHATEVER THE INPUT: true; the input reads as it did. -/
def ilxaNewSpec : ChangeSpec := { name := "ilxaNew", fn := fun _ => fun
  | [d1, d2] => { results := [.lit (.bool true)], args := [d1, d2] }
  | _ => none }
def ilxaNewRow : OpenClaim := { program := "ytjienmjpfklgeaa", sum := "23d9633601375e68dd497f7ba6371dafd0db594971c7bffb8672052ca1ec83f3", func := "semaphore/semaphorelaw10.IlxaNew", spec := "ilxaNew", unfollowed := true, recurses := true, apart := false }
def IlxaNewSaid : Prop := ilxaNewRow.holds Try.pinned (OpenSpec.ofChange ilxaNewSpec)

/-- ITS FALSE NEIGHBOUR: 'it returns false'. Refute it at one input. -/
def ilxaNewWrong : ChangeSpec := { name := "ilxaNew", fn := fun _ => fun
  | [d1, d2] => { results := [.lit (.bool false)], args := [d1, d2] }
  | _ => none }
def IlxaNewWrongFalsely : Prop := ilxaNewRow.holds Try.pinned (OpenSpec.ofChange ilxaNewWrong)

/-- 'semaphorelaw10.IlxaTidy': WHATEVER THE INPUT: true; the input reads as it did. -/
def ilxaTidySpec : ChangeSpec := { name := "ilxaTidy", fn := fun _ => fun
  | [d1, d2] => { results := [.lit (.bool true)], args := [d1, d2] }
  | _ => none }
def ilxaTidyRow : OpenClaim := { program := "ytjienmjpfklgeaa", sum := "23d9633601375e68dd497f7ba6371dafd0db594971c7bffb8672052ca1ec83f3", func := "semaphore/semaphorelaw10.IlxaTidy", spec := "ilxaTidy", unfollowed := true, recurses := true, apart := false }
def IlxaTidySaid : Prop := ilxaTidyRow.holds Try.pinned (OpenSpec.ofChange ilxaTidySpec)

/-- ITS FALSE NEIGHBOUR: 'it returns false'. Refute it at one input. -/
def ilxaTidyWrong : ChangeSpec := { name := "ilxaTidy", fn := fun _ => fun
  | [d1, d2] => { results := [.lit (.bool false)], args := [d1, d2] }
  | _ => none }
def IlxaTidyWrongFalsely : Prop := ilxaTidyRow.holds Try.pinned (OpenSpec.ofChange ilxaTidyWrong)

/-- 'semaphorelaw10.IlxaSafe': WHATEVER THE INPUT: true; the input reads as it did. -/
def ilxaSafeSpec : ChangeSpec := { name := "ilxaSafe", fn := fun _ => fun
  | [d1, d2, d3] => { results := [.lit (.bool true)], args := [d1, d2, d3] }
  | _ => none }
def ilxaSafeRow : OpenClaim := { program := "ytjienmjpfklgeaa", sum := "23d9633601375e68dd497f7ba6371dafd0db594971c7bffb8672052ca1ec83f3", func := "semaphore/semaphorelaw10.IlxaSafe", spec := "ilxaSafe", unfollowed := true, recurses := true, apart := false }
def IlxaSafeSaid : Prop := ilxaSafeRow.holds Try.pinned (OpenSpec.ofChange ilxaSafeSpec)

/-- ITS FALSE NEIGHBOUR: 'it returns false'. Refute it at one input. -/
def ilxaSafeWrong : ChangeSpec := { name := "ilxaSafe", fn := fun _ => fun
  | [d1, d2, d3] => { results := [.lit (.bool false)], args := [d1, d2, d3] }
  | _ => none }
def IlxaSafeWrongFalsely : Prop := ilxaSafeRow.holds Try.pinned (OpenSpec.ofChange ilxaSafeWrong)

/-- 'semaphorelaw10.IlxaRun': WHATEVER THE INPUT: true; the input reads as it did. -/
def ilxaRunSpec : ChangeSpec := { name := "ilxaRun", fn := fun _ => fun
  | [d1, d2] => { results := [.lit (.bool true)], args := [d1, d2] }
  | _ => none }
def ilxaRunRow : OpenClaim := { program := "ytjienmjpfklgeaa", sum := "23d9633601375e68dd497f7ba6371dafd0db594971c7bffb8672052ca1ec83f3", func := "semaphore/semaphorelaw10.IlxaRun", spec := "ilxaRun", unfollowed := true, recurses := true, apart := false }
def IlxaRunSaid : Prop := ilxaRunRow.holds Try.pinned (OpenSpec.ofChange ilxaRunSpec)

/-- ITS FALSE NEIGHBOUR: 'it returns false'. Refute it at one input. -/
def ilxaRunWrong : ChangeSpec := { name := "ilxaRun", fn := fun _ => fun
  | [d1, d2] => { results := [.lit (.bool false)], args := [d1, d2] }
  | _ => none }
def IlxaRunWrongFalsely : Prop := ilxaRunRow.holds Try.pinned (OpenSpec.ofChange ilxaRunWrong)

/- THE SECOND FORM. 'bulk': how many values and letters a reading holds, each counted each time it is reached (what is shared counts as often as it is met; a slice's spare places count too). A statement '..UptoSaid' is the law's where the arguments, and the package variables that the reading takes, are together of bulk at most 1048576: NARROWER than '..Said'. Prove '..Said' where nothing that the law and all that it calls make is longer than what came in: it says more and counts as full. Else prove '..UptoSaid'. A law counts once. -/
mutual
def uptoBulk {H : Type} : DataW H → Nat
  | .lit (.string bytes) => bytes.length + 1
  | .lit _ => 1
  | .nil => 1
  | .ptr d => uptoBulk d + 1
  | .slice elems spare => uptoBulkAll elems + uptoBulkAll spare + 1
  | .agg parts => uptoBulkAll parts + 1
  | .iface _ d => uptoBulk d + 1
  | .map entries => uptoBulkEntries entries + 1
  | .held _ => 1
def uptoBulkAll {H : Type} : List (DataW H) → Nat
  | [] => 0
  | d :: r => uptoBulk d + uptoBulkAll r
def uptoBulkEntries {H : Type} : List (Lit × DataW H) → Nat
  | [] => 0
  | x :: r => uptoBulkEntry x + uptoBulkEntries r
def uptoBulkEntry {H : Type} : Lit × DataW H → Nat
  | (.string bytes, d) => bytes.length + uptoBulk d + 1
  | (_, d) => uptoBulk d + 1
 end
def uptoSmall : (H : Type) → List (DataW H) → Bool := fun _ ds => decide (uptoBulkAll ds ≤ 1048576)
def OpenSpec.upto (s : _root_.Go.ChangeSpec) : _root_.Go.OpenSpec := { _root_.Go.OpenSpec.ofChange s with cond := some uptoSmall }

/-- 'semaphorelaw10.IlxaStep', WHERE WHAT IT READS IS OF BULK AT MOST 1048576: true; the input reads as it did. -/
def ilxaStepUptoRow : OpenClaim := { program := "ytjienmjpfklgeaa", sum := "23d9633601375e68dd497f7ba6371dafd0db594971c7bffb8672052ca1ec83f3", func := "semaphore/semaphorelaw10.IlxaStep", spec := "ilxaStep", unfollowed := true, recurses := true, apart := false, narrowed := true }
def IlxaStepUptoSaid : Prop := ilxaStepUptoRow.holds Try.pinned (OpenSpec.upto ilxaStepSpec)

/-- 'semaphorelaw10.IlxaNew', WHERE WHAT IT READS IS OF BULK AT MOST 1048576: true; the input reads as it did. -/
def ilxaNewUptoRow : OpenClaim := { program := "ytjienmjpfklgeaa", sum := "23d9633601375e68dd497f7ba6371dafd0db594971c7bffb8672052ca1ec83f3", func := "semaphore/semaphorelaw10.IlxaNew", spec := "ilxaNew", unfollowed := true, recurses := true, apart := false, narrowed := true }
def IlxaNewUptoSaid : Prop := ilxaNewUptoRow.holds Try.pinned (OpenSpec.upto ilxaNewSpec)

/-- 'semaphorelaw10.IlxaTidy', WHERE WHAT IT READS IS OF BULK AT MOST 1048576: true; the input reads as it did. -/
def ilxaTidyUptoRow : OpenClaim := { program := "ytjienmjpfklgeaa", sum := "23d9633601375e68dd497f7ba6371dafd0db594971c7bffb8672052ca1ec83f3", func := "semaphore/semaphorelaw10.IlxaTidy", spec := "ilxaTidy", unfollowed := true, recurses := true, apart := false, narrowed := true }
def IlxaTidyUptoSaid : Prop := ilxaTidyUptoRow.holds Try.pinned (OpenSpec.upto ilxaTidySpec)

/-- 'semaphorelaw10.IlxaSafe', WHERE WHAT IT READS IS OF BULK AT MOST 1048576: true; the input reads as it did. -/
def ilxaSafeUptoRow : OpenClaim := { program := "ytjienmjpfklgeaa", sum := "23d9633601375e68dd497f7ba6371dafd0db594971c7bffb8672052ca1ec83f3", func := "semaphore/semaphorelaw10.IlxaSafe", spec := "ilxaSafe", unfollowed := true, recurses := true, apart := false, narrowed := true }
def IlxaSafeUptoSaid : Prop := ilxaSafeUptoRow.holds Try.pinned (OpenSpec.upto ilxaSafeSpec)

/-- 'semaphorelaw10.IlxaRun', WHERE WHAT IT READS IS OF BULK AT MOST 1048576: true; the input reads as it did. -/
def ilxaRunUptoRow : OpenClaim := { program := "ytjienmjpfklgeaa", sum := "23d9633601375e68dd497f7ba6371dafd0db594971c7bffb8672052ca1ec83f3", func := "semaphore/semaphorelaw10.IlxaRun", spec := "ilxaRun", unfollowed := true, recurses := true, apart := false, narrowed := true }
def IlxaRunUptoSaid : Prop := ilxaRunUptoRow.holds Try.pinned (OpenSpec.upto ilxaRunSpec)

end Rows
end Go.Proofs.Ytjienmjpfklgeaa
