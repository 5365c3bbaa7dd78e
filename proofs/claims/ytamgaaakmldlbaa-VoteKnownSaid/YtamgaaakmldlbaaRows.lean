/-
  No cell of these rows narrows 'for every input' (looked for: loops, veiled, ifaces, maps, wideKeys, modest, calm, conditions, laid).
  DERIVED. THE GIVEN ROWS OF THIS SEAT. 5 by the template 'for every input the law returns true; each argument reads behind the call as it read before'; 0 by the template 'total and deterministic' (their statements: YtamgaaakmldlbaaTotals.lean).
  GIVEN WITH THE SEED: the statements are not yours to turn. If you find one false, say at which input.
  Laid BY PROGRAM, IN A SANDBOX (cutbox-rows.mjs): the forced cells as the released guide's own fill.sh prints them over the translation 4bdc2466883710bf… (all of the seat's roots in one cut). By AI agents, Wed Nov 11 2026. No macro, syntax, notation, axiom, sorry.
-/
import Derived.Test.YtamgaaakmldlbaaChecked
import GoSem.Claim
import GoSem.ClaimJoined
import GoSem.ClaimMapViews
import Derived.JoinedTies
import Derived.KernelRfl
namespace Go.Proofs.Ytamgaaakmldlbaa
/- THE CELL 'sum', in the pinned program and in every row, IS THE sha256 OF THE DUMP (.gsa) THAT YtamgaaakmldlbaaProg.lean LOADS. Nothing in Lean hashes anything: it is a label: what it is worth is what the hold of that sum in a sandbox is worth. -/
noncomputable def Try.pinned : Pinned := { name := "ytamgaaakmldlbaa", sum := "4bdc2466883710bfd572dede0aca0ce59aa1a69430c057cf9d47abc62cd90f64", checked := Try.checked }
namespace Rows
def none {H : Type} : Left H := { results := [], args := [] }

/-- 'semaphorelaw12.VoteUnlike': WHATEVER THE INPUT: true; the input reads as it did. -/
def voteUnlikeSpec : ChangeSpec := { name := "voteUnlike", fn := fun _ => fun
  | [d1, d2, d3] => { results := [.lit (.bool true)], args := [d1, d2, d3] }
  | _ => none }
def voteUnlikeRow : OpenClaim := { program := "ytamgaaakmldlbaa", sum := "4bdc2466883710bfd572dede0aca0ce59aa1a69430c057cf9d47abc62cd90f64", func := "semaphore/semaphorelaw12.VoteUnlike", spec := "voteUnlike", apart := false }
def VoteUnlikeSaid : Prop := voteUnlikeRow.holds Try.pinned (OpenSpec.ofChange voteUnlikeSpec)

/-- ITS FALSE NEIGHBOUR: 'it returns false'. Refute it at one input. -/
def voteUnlikeWrong : ChangeSpec := { name := "voteUnlike", fn := fun _ => fun
  | [d1, d2, d3] => { results := [.lit (.bool false)], args := [d1, d2, d3] }
  | _ => none }
def VoteUnlikeWrongFalsely : Prop := voteUnlikeRow.holds Try.pinned (OpenSpec.ofChange voteUnlikeWrong)

/-- 'semaphorelaw12.VotePlays': WHATEVER THE INPUT: true; the input reads as it did. -/
def votePlaysSpec : ChangeSpec := { name := "votePlays", fn := fun _ => fun
  | [d] => { results := [.lit (.bool true)], args := [d] }
  | _ => none }
def votePlaysRow : OpenClaim := { program := "ytamgaaakmldlbaa", sum := "4bdc2466883710bfd572dede0aca0ce59aa1a69430c057cf9d47abc62cd90f64", func := "semaphore/semaphorelaw12.VotePlays", spec := "votePlays", apart := false }
def VotePlaysSaid : Prop := votePlaysRow.holds Try.pinned (OpenSpec.ofChange votePlaysSpec)

/-- ITS FALSE NEIGHBOUR: 'it returns false'. Refute it at one input. -/
def votePlaysWrong : ChangeSpec := { name := "votePlays", fn := fun _ => fun
  | [d] => { results := [.lit (.bool false)], args := [d] }
  | _ => none }
def VotePlaysWrongFalsely : Prop := votePlaysRow.holds Try.pinned (OpenSpec.ofChange votePlaysWrong)

/-- 'semaphorelaw12.VoteBoth': WHATEVER THE INPUT: true; the input reads as it did. -/
def voteBothSpec : ChangeSpec := { name := "voteBoth", fn := fun _ => fun
  | [d] => { results := [.lit (.bool true)], args := [d] }
  | _ => none }
def voteBothRow : OpenClaim := { program := "ytamgaaakmldlbaa", sum := "4bdc2466883710bfd572dede0aca0ce59aa1a69430c057cf9d47abc62cd90f64", func := "semaphore/semaphorelaw12.VoteBoth", spec := "voteBoth", apart := false }
def VoteBothSaid : Prop := voteBothRow.holds Try.pinned (OpenSpec.ofChange voteBothSpec)

/-- ITS FALSE NEIGHBOUR: 'it returns false'. Refute it at one input. -/
def voteBothWrong : ChangeSpec := { name := "voteBoth", fn := fun _ => fun
  | [d] => { results := [.lit (.bool false)], args := [d] }
  | _ => none }
def VoteBothWrongFalsely : Prop := voteBothRow.holds Try.pinned (OpenSpec.ofChange voteBothWrong)

/-- 'semaphorelaw12.VoteNone': WHATEVER THE INPUT: true; the input reads as it did. -/
def voteNoneSpec : ChangeSpec := { name := "voteNone", fn := fun _ => fun
  | [d1, d2] => { results := [.lit (.bool true)], args := [d1, d2] }
  | _ => none }
def voteNoneRow : OpenClaim := { program := "ytamgaaakmldlbaa", sum := "4bdc2466883710bfd572dede0aca0ce59aa1a69430c057cf9d47abc62cd90f64", func := "semaphore/semaphorelaw12.VoteNone", spec := "voteNone", apart := false }
def VoteNoneSaid : Prop := voteNoneRow.holds Try.pinned (OpenSpec.ofChange voteNoneSpec)

/-- ITS FALSE NEIGHBOUR: 'it returns false'. Refute it at one input. -/
def voteNoneWrong : ChangeSpec := { name := "voteNone", fn := fun _ => fun
  | [d1, d2] => { results := [.lit (.bool false)], args := [d1, d2] }
  | _ => none }
def VoteNoneWrongFalsely : Prop := voteNoneRow.holds Try.pinned (OpenSpec.ofChange voteNoneWrong)

/-- 'semaphorelaw12.VoteKnown': WHATEVER THE INPUT: true; the input reads as it did. -/
def voteKnownSpec : ChangeSpec := { name := "voteKnown", fn := fun _ => fun
  | [] => { results := [.lit (.bool true)], args := [] }
  | _ => none }
def voteKnownRow : OpenClaim := { program := "ytamgaaakmldlbaa", sum := "4bdc2466883710bfd572dede0aca0ce59aa1a69430c057cf9d47abc62cd90f64", func := "semaphore/semaphorelaw12.VoteKnown", spec := "voteKnown", apart := false }
def VoteKnownSaid : Prop := voteKnownRow.holds Try.pinned (OpenSpec.ofChange voteKnownSpec)

/-- ITS FALSE NEIGHBOUR: 'it returns false'. Refute it at one input. -/
def voteKnownWrong : ChangeSpec := { name := "voteKnown", fn := fun _ => fun
  | [] => { results := [.lit (.bool false)], args := [] }
  | _ => none }
def VoteKnownWrongFalsely : Prop := voteKnownRow.holds Try.pinned (OpenSpec.ofChange voteKnownWrong)

/- THE SECOND FORM. 'bulk': how many values and letters a reading holds, each counted each time it is reached (what is shared counts as often as it is met; a slice's spare places count too). A statement '..UptoSaid' is the law's where the arguments, and the package variables that the reading takes, are together of bulk at most 1048576: NARROWER than '..Said'. Prove '..Said' where nothing that the law and all that it calls make is longer than what came in: it says more and counts as full. Else prove '..UptoSaid'. A law counts once. -/
mutual
def uptoBulk {H : Type} : DataW H → Nat
  | .lit (.string bytes) => bytes.length + 1
  | .lit _ => 1
  | .nil => 1
  | .ptr d => uptoBulk d + 1
  | .slice elems spare => uptoBulkAll elems + uptoBulkAll spare + 1
  | .agg parts => uptoBulkAll parts + 1
  | .iface _ d => uptoBulk d + 1
  | .map entries => uptoBulkEntries entries + 1
  | .held _ => 1
def uptoBulkAll {H : Type} : List (DataW H) → Nat
  | [] => 0
  | d :: r => uptoBulk d + uptoBulkAll r
def uptoBulkEntries {H : Type} : List (Lit × DataW H) → Nat
  | [] => 0
  | x :: r => uptoBulkEntry x + uptoBulkEntries r
def uptoBulkEntry {H : Type} : Lit × DataW H → Nat
  | (.string bytes, d) => bytes.length + uptoBulk d + 1
  | (_, d) => uptoBulk d + 1
 end
def uptoSmall : (H : Type) → List (DataW H) → Bool := fun _ ds => decide (uptoBulkAll ds ≤ 1048576)
def OpenSpec.upto (s : _root_.Go.ChangeSpec) : _root_.Go.OpenSpec := { _root_.Go.OpenSpec.ofChange s with cond := some uptoSmall }

/-- 'semaphorelaw12.VoteUnlike', WHERE WHAT IT READS IS OF BULK AT MOST 1048576: true; the input reads as it did. -/
def voteUnlikeUptoRow : OpenClaim := { program := "ytamgaaakmldlbaa", sum := "4bdc2466883710bfd572dede0aca0ce59aa1a69430c057cf9d47abc62cd90f64", func := "semaphore/semaphorelaw12.VoteUnlike", spec := "voteUnlike", apart := false, narrowed := true }
def VoteUnlikeUptoSaid : Prop := voteUnlikeUptoRow.holds Try.pinned (OpenSpec.upto voteUnlikeSpec)

/-- 'semaphorelaw12.VotePlays', WHERE WHAT IT READS IS OF BULK AT MOST 1048576: true; the input reads as it did. -/
def votePlaysUptoRow : OpenClaim := { program := "ytamgaaakmldlbaa", sum := "4bdc2466883710bfd572dede0aca0ce59aa1a69430c057cf9d47abc62cd90f64", func := "semaphore/semaphorelaw12.VotePlays", spec := "votePlays", apart := false, narrowed := true }
def VotePlaysUptoSaid : Prop := votePlaysUptoRow.holds Try.pinned (OpenSpec.upto votePlaysSpec)

/-- 'semaphorelaw12.VoteBoth', WHERE WHAT IT READS IS OF BULK AT MOST 1048576: true; the input reads as it did. -/
def voteBothUptoRow : OpenClaim := { program := "ytamgaaakmldlbaa", sum := "4bdc2466883710bfd572dede0aca0ce59aa1a69430c057cf9d47abc62cd90f64", func := "semaphore/semaphorelaw12.VoteBoth", spec := "voteBoth", apart := false, narrowed := true }
def VoteBothUptoSaid : Prop := voteBothUptoRow.holds Try.pinned (OpenSpec.upto voteBothSpec)

/-- 'semaphorelaw12.VoteNone', WHERE WHAT IT READS IS OF BULK AT MOST 1048576: true; the input reads as it did. -/
def voteNoneUptoRow : OpenClaim := { program := "ytamgaaakmldlbaa", sum := "4bdc2466883710bfd572dede0aca0ce59aa1a69430c057cf9d47abc62cd90f64", func := "semaphore/semaphorelaw12.VoteNone", spec := "voteNone", apart := false, narrowed := true }
def VoteNoneUptoSaid : Prop := voteNoneUptoRow.holds Try.pinned (OpenSpec.upto voteNoneSpec)

/-- 'semaphorelaw12.VoteKnown', WHERE WHAT IT READS IS OF BULK AT MOST 1048576: true; the input reads as it did. -/
def voteKnownUptoRow : OpenClaim := { program := "ytamgaaakmldlbaa", sum := "4bdc2466883710bfd572dede0aca0ce59aa1a69430c057cf9d47abc62cd90f64", func := "semaphore/semaphorelaw12.VoteKnown", spec := "voteKnown", apart := false, narrowed := true }
def VoteKnownUptoSaid : Prop := voteKnownUptoRow.holds Try.pinned (OpenSpec.upto voteKnownSpec)

end Rows
end Go.Proofs.Ytamgaaakmldlbaa
