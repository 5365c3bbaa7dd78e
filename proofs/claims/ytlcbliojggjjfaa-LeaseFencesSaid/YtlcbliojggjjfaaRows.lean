/-
  No cell of these rows narrows 'for every input' (looked for: loops, veiled, ifaces, maps, wideKeys, modest, calm, conditions, laid).
  DERIVED. THE GIVEN ROWS OF THIS SEAT. 4 by the template 'for every input the law returns true; each argument reads behind the call as it read before'; 0 by the template 'total and deterministic' (their statements: YtlcbliojggjjfaaTotals.lean).
  GIVEN WITH THE SEED: the statements are not yours to turn. If you find one false, say at which input.
  Laid BY PROGRAM, IN A SANDBOX (cutbox-rows.mjs): the forced cells as the released guide's own fill.sh prints them over the translation 56ad255ee83563d0… (all of the seat's roots in one cut). By AI agents, Wed Nov 11 2026. No macro, syntax, notation, axiom, sorry.
-/
import Derived.Test.YtlcbliojggjjfaaChecked
import GoSem.Claim
import GoSem.ClaimJoined
import GoSem.ClaimMapViews
import Derived.JoinedTies
import Derived.KernelRfl
namespace Go.Proofs.Ytlcbliojggjjfaa
/- THE CELL 'sum', in the pinned program and in every row, IS THE sha256 OF THE DUMP (.gsa) THAT YtlcbliojggjjfaaProg.lean LOADS. Nothing in Lean hashes anything: it is a label: what it is worth is what the hold of that sum in a sandbox is worth. -/
noncomputable def Try.pinned : Pinned := { name := "ytlcbliojggjjfaa", sum := "56ad255ee83563d0ff75df9a8d92e04bbbe55615cd5cf230efe2ac4efddbebf2", checked := Try.checked }
namespace Rows
def none {H : Type} : Left H := { results := [], args := [] }

/-- 'semaphorelaw23.LeaseAsks': WHATEVER THE INPUT: true; the input reads as it did. -/
def leaseAsksSpec : ChangeSpec := { name := "leaseAsks", fn := fun _ => fun
  | [d1, d2, d3] => { results := [.lit (.bool true)], args := [d1, d2, d3] }
  | _ => none }
def leaseAsksRow : OpenClaim := { program := "ytlcbliojggjjfaa", sum := "56ad255ee83563d0ff75df9a8d92e04bbbe55615cd5cf230efe2ac4efddbebf2", func := "semaphore/semaphorelaw23.LeaseAsks", spec := "leaseAsks", apart := false }
def LeaseAsksSaid : Prop := leaseAsksRow.holds Try.pinned (OpenSpec.ofChange leaseAsksSpec)

/-- ITS FALSE NEIGHBOUR: 'it returns false'. Refute it at one input. -/
def leaseAsksWrong : ChangeSpec := { name := "leaseAsks", fn := fun _ => fun
  | [d1, d2, d3] => { results := [.lit (.bool false)], args := [d1, d2, d3] }
  | _ => none }
def LeaseAsksWrongFalsely : Prop := leaseAsksRow.holds Try.pinned (OpenSpec.ofChange leaseAsksWrong)

/-- 'semaphorelaw23.LeaseRenews': WHATEVER THE INPUT: true; the input reads as it did. -/
def leaseRenewsSpec : ChangeSpec := { name := "leaseRenews", fn := fun _ => fun
  | [d1, d2, d3, d4] => { results := [.lit (.bool true)], args := [d1, d2, d3, d4] }
  | _ => none }
def leaseRenewsRow : OpenClaim := { program := "ytlcbliojggjjfaa", sum := "56ad255ee83563d0ff75df9a8d92e04bbbe55615cd5cf230efe2ac4efddbebf2", func := "semaphore/semaphorelaw23.LeaseRenews", spec := "leaseRenews", apart := false }
def LeaseRenewsSaid : Prop := leaseRenewsRow.holds Try.pinned (OpenSpec.ofChange leaseRenewsSpec)

/-- ITS FALSE NEIGHBOUR: 'it returns false'. Refute it at one input. -/
def leaseRenewsWrong : ChangeSpec := { name := "leaseRenews", fn := fun _ => fun
  | [d1, d2, d3, d4] => { results := [.lit (.bool false)], args := [d1, d2, d3, d4] }
  | _ => none }
def LeaseRenewsWrongFalsely : Prop := leaseRenewsRow.holds Try.pinned (OpenSpec.ofChange leaseRenewsWrong)

/-- 'semaphorelaw23.LeaseGives': WHATEVER THE INPUT: true; the input reads as it did. -/
def leaseGivesSpec : ChangeSpec := { name := "leaseGives", fn := fun _ => fun
  | [d1, d2, d3] => { results := [.lit (.bool true)], args := [d1, d2, d3] }
  | _ => none }
def leaseGivesRow : OpenClaim := { program := "ytlcbliojggjjfaa", sum := "56ad255ee83563d0ff75df9a8d92e04bbbe55615cd5cf230efe2ac4efddbebf2", func := "semaphore/semaphorelaw23.LeaseGives", spec := "leaseGives", apart := false }
def LeaseGivesSaid : Prop := leaseGivesRow.holds Try.pinned (OpenSpec.ofChange leaseGivesSpec)

/-- ITS FALSE NEIGHBOUR: 'it returns false'. Refute it at one input. -/
def leaseGivesWrong : ChangeSpec := { name := "leaseGives", fn := fun _ => fun
  | [d1, d2, d3] => { results := [.lit (.bool false)], args := [d1, d2, d3] }
  | _ => none }
def LeaseGivesWrongFalsely : Prop := leaseGivesRow.holds Try.pinned (OpenSpec.ofChange leaseGivesWrong)

/-- 'semaphorelaw23.LeaseFences': WHATEVER THE INPUT: true; the input reads as it did. -/
def leaseFencesSpec : ChangeSpec := { name := "leaseFences", fn := fun _ => fun
  | [d1, d2, d3] => { results := [.lit (.bool true)], args := [d1, d2, d3] }
  | _ => none }
def leaseFencesRow : OpenClaim := { program := "ytlcbliojggjjfaa", sum := "56ad255ee83563d0ff75df9a8d92e04bbbe55615cd5cf230efe2ac4efddbebf2", func := "semaphore/semaphorelaw23.LeaseFences", spec := "leaseFences", apart := false }
def LeaseFencesSaid : Prop := leaseFencesRow.holds Try.pinned (OpenSpec.ofChange leaseFencesSpec)

/-- ITS FALSE NEIGHBOUR: 'it returns false'. Refute it at one input. -/
def leaseFencesWrong : ChangeSpec := { name := "leaseFences", fn := fun _ => fun
  | [d1, d2, d3] => { results := [.lit (.bool false)], args := [d1, d2, d3] }
  | _ => none }
def LeaseFencesWrongFalsely : Prop := leaseFencesRow.holds Try.pinned (OpenSpec.ofChange leaseFencesWrong)

/- THE SECOND FORM. 'bulk': how many values and letters a reading holds, each counted each time it is reached (what is shared counts as often as it is met; a slice's spare places count too). A statement '..UptoSaid' is the law's where the arguments, and the package variables that the reading takes, are together of bulk at most 1048576: NARROWER than '..Said'. Prove '..Said' where nothing that the law and all that it calls make is longer than what came in: it says more and counts as full. Else prove '..UptoSaid'. A law counts once. -/
mutual
def uptoBulk {H : Type} : DataW H → Nat
  | .lit (.string bytes) => bytes.length + 1
  | .lit _ => 1
  | .nil => 1
  | .ptr d => uptoBulk d + 1
  | .slice elems spare => uptoBulkAll elems + uptoBulkAll spare + 1
  | .agg parts => uptoBulkAll parts + 1
  | .iface _ d => uptoBulk d + 1
  | .map entries => uptoBulkEntries entries + 1
  | .held _ => 1
def uptoBulkAll {H : Type} : List (DataW H) → Nat
  | [] => 0
  | d :: r => uptoBulk d + uptoBulkAll r
def uptoBulkEntries {H : Type} : List (Lit × DataW H) → Nat
  | [] => 0
  | x :: r => uptoBulkEntry x + uptoBulkEntries r
def uptoBulkEntry {H : Type} : Lit × DataW H → Nat
  | (.string bytes, d) => bytes.length + uptoBulk d + 1
  | (_, d) => uptoBulk d + 1
 end
def uptoSmall : (H : Type) → List (DataW H) → Bool := fun _ ds => decide (uptoBulkAll ds ≤ 1048576)
def OpenSpec.upto (s : _root_.Go.ChangeSpec) : _root_.Go.OpenSpec := { _root_.Go.OpenSpec.ofChange s with cond := some uptoSmall }

/-- 'semaphorelaw23.LeaseAsks', WHERE WHAT IT READS IS OF BULK AT MOST 1048576: true; the input reads as it did. -/
def leaseAsksUptoRow : OpenClaim := { program := "ytlcbliojggjjfaa", sum := "56ad255ee83563d0ff75df9a8d92e04bbbe55615cd5cf230efe2ac4efddbebf2", func := "semaphore/semaphorelaw23.LeaseAsks", spec := "leaseAsks", apart := false, narrowed := true }
def LeaseAsksUptoSaid : Prop := leaseAsksUptoRow.holds Try.pinned (OpenSpec.upto leaseAsksSpec)

/-- 'semaphorelaw23.LeaseRenews', WHERE WHAT IT READS IS OF BULK AT MOST 1048576: true; the input reads as it did. -/
def leaseRenewsUptoRow : OpenClaim := { program := "ytlcbliojggjjfaa", sum := "56ad255ee83563d0ff75df9a8d92e04bbbe55615cd5cf230efe2ac4efddbebf2", func := "semaphore/semaphorelaw23.LeaseRenews", spec := "leaseRenews", apart := false, narrowed := true }
def LeaseRenewsUptoSaid : Prop := leaseRenewsUptoRow.holds Try.pinned (OpenSpec.upto leaseRenewsSpec)

/-- 'semaphorelaw23.LeaseGives', WHERE WHAT IT READS IS OF BULK AT MOST 1048576: true; the input reads as it did. -/
def leaseGivesUptoRow : OpenClaim := { program := "ytlcbliojggjjfaa", sum := "56ad255ee83563d0ff75df9a8d92e04bbbe55615cd5cf230efe2ac4efddbebf2", func := "semaphore/semaphorelaw23.LeaseGives", spec := "leaseGives", apart := false, narrowed := true }
def LeaseGivesUptoSaid : Prop := leaseGivesUptoRow.holds Try.pinned (OpenSpec.upto leaseGivesSpec)

/-- 'semaphorelaw23.LeaseFences', WHERE WHAT IT READS IS OF BULK AT MOST 1048576: true; the input reads as it did. -/
def leaseFencesUptoRow : OpenClaim := { program := "ytlcbliojggjjfaa", sum := "56ad255ee83563d0ff75df9a8d92e04bbbe55615cd5cf230efe2ac4efddbebf2", func := "semaphore/semaphorelaw23.LeaseFences", spec := "leaseFences", apart := false, narrowed := true }
def LeaseFencesUptoSaid : Prop := leaseFencesUptoRow.holds Try.pinned (OpenSpec.upto leaseFencesSpec)

end Rows
end Go.Proofs.Ytlcbliojggjjfaa
