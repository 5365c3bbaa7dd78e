/-
  No cell of these rows narrows 'for every input' (looked for: loops, veiled, ifaces, maps, wideKeys, modest, calm, conditions, laid).
  DERIVED. THE GIVEN ROWS OF THIS SEAT. 4 by the template 'for every input the law returns true; each argument reads behind the call as it read before'; 0 by the template 'total and deterministic' (their statements: YtififkielmddpaaTotals.lean).
  GIVEN WITH THE SEED: the statements are not yours to turn. If you find one false, say at which input.
  Laid BY PROGRAM, IN A SANDBOX (cutbox-rows.mjs): the forced cells as the released guide's own fill.sh prints them over the translation 36c3162c08f0785c… (all of the seat's roots in one cut). By AI agents, Wed Nov 11 2026. No macro, syntax, notation, axiom, sorry.
-/
import Derived.Test.YtififkielmddpaaChecked
import GoSem.Claim
import GoSem.ClaimJoined
import GoSem.ClaimMapViews
import Derived.JoinedTies
import Derived.KernelRfl
namespace Go.Proofs.Ytififkielmddpaa
/- THE CELL 'sum', in the pinned program and in every row, IS THE sha256 OF THE DUMP (.gsa) THAT YtififkielmddpaaProg.lean LOADS. Nothing in Lean hashes anything: it is a label: what it is worth is what the hold of that sum in a sandbox is worth. -/
noncomputable def Try.pinned : Pinned := { name := "ytififkielmddpaa", sum := "36c3162c08f0785cb591b3e5a6ca753fb17b0e6ffc117453b63181106d907617", checked := Try.checked }
namespace Rows
def none {H : Type} : Left H := { results := [], args := [] }

/-- 'semaphorelaw08.MasksMake': WHATEVER THE INPUT: true; the input reads as it did. -/
def masksMakeSpec : ChangeSpec := { name := "masksMake", fn := fun _ => fun
  | [d] => { results := [.lit (.bool true)], args := [d] }
  | _ => none }
def masksMakeRow : OpenClaim := { program := "ytififkielmddpaa", sum := "36c3162c08f0785cb591b3e5a6ca753fb17b0e6ffc117453b63181106d907617", func := "semaphore/semaphorelaw08.MasksMake", spec := "masksMake", unfollowed := true, recurses := true, apart := false }
def MasksMakeSaid : Prop := masksMakeRow.holds Try.pinned (OpenSpec.ofChange masksMakeSpec)

/-- ITS FALSE NEIGHBOUR: 'it returns false'. Refute it at one input. -/
def masksMakeWrong : ChangeSpec := { name := "masksMake", fn := fun _ => fun
  | [d] => { results := [.lit (.bool false)], args := [d] }
  | _ => none }
def MasksMakeWrongFalsely : Prop := masksMakeRow.holds Try.pinned (OpenSpec.ofChange masksMakeWrong)

/-- 'semaphorelaw08.MasksNeed': WHATEVER THE INPUT: true; the input reads as it did. -/
def masksNeedSpec : ChangeSpec := { name := "masksNeed", fn := fun _ => fun
  | [d1, d2] => { results := [.lit (.bool true)], args := [d1, d2] }
  | _ => none }
def masksNeedRow : OpenClaim := { program := "ytififkielmddpaa", sum := "36c3162c08f0785cb591b3e5a6ca753fb17b0e6ffc117453b63181106d907617", func := "semaphore/semaphorelaw08.MasksNeed", spec := "masksNeed", unfollowed := true, recurses := true, apart := false }
def MasksNeedSaid : Prop := masksNeedRow.holds Try.pinned (OpenSpec.ofChange masksNeedSpec)

/-- ITS FALSE NEIGHBOUR: 'it returns false'. Refute it at one input. -/
def masksNeedWrong : ChangeSpec := { name := "masksNeed", fn := fun _ => fun
  | [d1, d2] => { results := [.lit (.bool false)], args := [d1, d2] }
  | _ => none }
def MasksNeedWrongFalsely : Prop := masksNeedRow.holds Try.pinned (OpenSpec.ofChange masksNeedWrong)

/-- 'semaphorelaw08.MasksPeace': WHATEVER THE INPUT: true; the input reads as it did. -/
def masksPeaceSpec : ChangeSpec := { name := "masksPeace", fn := fun _ => fun
  | [d1, d2] => { results := [.lit (.bool true)], args := [d1, d2] }
  | _ => none }
def masksPeaceRow : OpenClaim := { program := "ytififkielmddpaa", sum := "36c3162c08f0785cb591b3e5a6ca753fb17b0e6ffc117453b63181106d907617", func := "semaphore/semaphorelaw08.MasksPeace", spec := "masksPeace", unfollowed := true, recurses := true, apart := false }
def MasksPeaceSaid : Prop := masksPeaceRow.holds Try.pinned (OpenSpec.ofChange masksPeaceSpec)

/-- ITS FALSE NEIGHBOUR: 'it returns false'. Refute it at one input. -/
def masksPeaceWrong : ChangeSpec := { name := "masksPeace", fn := fun _ => fun
  | [d1, d2] => { results := [.lit (.bool false)], args := [d1, d2] }
  | _ => none }
def MasksPeaceWrongFalsely : Prop := masksPeaceRow.holds Try.pinned (OpenSpec.ofChange masksPeaceWrong)

/-- 'semaphorelaw08.MasksKnown': WHATEVER THE INPUT: true; the input reads as it did. -/
def masksKnownSpec : ChangeSpec := { name := "masksKnown", fn := fun _ => fun
  | [] => { results := [.lit (.bool true)], args := [] }
  | _ => none }
def masksKnownRow : OpenClaim := { program := "ytififkielmddpaa", sum := "36c3162c08f0785cb591b3e5a6ca753fb17b0e6ffc117453b63181106d907617", func := "semaphore/semaphorelaw08.MasksKnown", spec := "masksKnown", unfollowed := true, recurses := true, apart := false }
def MasksKnownSaid : Prop := masksKnownRow.holds Try.pinned (OpenSpec.ofChange masksKnownSpec)

/-- ITS FALSE NEIGHBOUR: 'it returns false'. Refute it at one input. -/
def masksKnownWrong : ChangeSpec := { name := "masksKnown", fn := fun _ => fun
  | [] => { results := [.lit (.bool false)], args := [] }
  | _ => none }
def MasksKnownWrongFalsely : Prop := masksKnownRow.holds Try.pinned (OpenSpec.ofChange masksKnownWrong)

/- THE SECOND FORM. 'bulk': how many values and letters a reading holds, each counted each time it is reached (what is shared counts as often as it is met; a slice's spare places count too). A statement '..UptoSaid' is the law's where the arguments, and the package variables that the reading takes, are together of bulk at most 1048576: NARROWER than '..Said'. Prove '..Said' where nothing that the law and all that it calls make is longer than what came in: it says more and counts as full. Else prove '..UptoSaid'. A law counts once. -/
mutual
def uptoBulk {H : Type} : DataW H → Nat
  | .lit (.string bytes) => bytes.length + 1
  | .lit _ => 1
  | .nil => 1
  | .ptr d => uptoBulk d + 1
  | .slice elems spare => uptoBulkAll elems + uptoBulkAll spare + 1
  | .agg parts => uptoBulkAll parts + 1
  | .iface _ d => uptoBulk d + 1
  | .map entries => uptoBulkEntries entries + 1
  | .held _ => 1
def uptoBulkAll {H : Type} : List (DataW H) → Nat
  | [] => 0
  | d :: r => uptoBulk d + uptoBulkAll r
def uptoBulkEntries {H : Type} : List (Lit × DataW H) → Nat
  | [] => 0
  | x :: r => uptoBulkEntry x + uptoBulkEntries r
def uptoBulkEntry {H : Type} : Lit × DataW H → Nat
  | (.string bytes, d) => bytes.length + uptoBulk d + 1
  | (_, d) => uptoBulk d + 1
 end
def uptoSmall : (H : Type) → List (DataW H) → Bool := fun _ ds => decide (uptoBulkAll ds ≤ 1048576)
def OpenSpec.upto (s : _root_.Go.ChangeSpec) : _root_.Go.OpenSpec := { _root_.Go.OpenSpec.ofChange s with cond := some uptoSmall }

/-- 'semaphorelaw08.MasksMake', WHERE WHAT IT READS IS OF BULK AT MOST 1048576: true; the input reads as it did. -/
def masksMakeUptoRow : OpenClaim := { program := "ytififkielmddpaa", sum := "36c3162c08f0785cb591b3e5a6ca753fb17b0e6ffc117453b63181106d907617", func := "semaphore/semaphorelaw08.MasksMake", spec := "masksMake", unfollowed := true, recurses := true, apart := false, narrowed := true }
def MasksMakeUptoSaid : Prop := masksMakeUptoRow.holds Try.pinned (OpenSpec.upto masksMakeSpec)

/-- 'semaphorelaw08.MasksNeed', WHERE WHAT IT READS IS OF BULK AT MOST 1048576: true; the input reads as it did. -/
def masksNeedUptoRow : OpenClaim := { program := "ytififkielmddpaa", sum := "36c3162c08f0785cb591b3e5a6ca753fb17b0e6ffc117453b63181106d907617", func := "semaphore/semaphorelaw08.MasksNeed", spec := "masksNeed", unfollowed := true, recurses := true, apart := false, narrowed := true }
def MasksNeedUptoSaid : Prop := masksNeedUptoRow.holds Try.pinned (OpenSpec.upto masksNeedSpec)

/-- 'semaphorelaw08.MasksPeace', WHERE WHAT IT READS IS OF BULK AT MOST 1048576: true; the input reads as it did. -/
def masksPeaceUptoRow : OpenClaim := { program := "ytififkielmddpaa", sum := "36c3162c08f0785cb591b3e5a6ca753fb17b0e6ffc117453b63181106d907617", func := "semaphore/semaphorelaw08.MasksPeace", spec := "masksPeace", unfollowed := true, recurses := true, apart := false, narrowed := true }
def MasksPeaceUptoSaid : Prop := masksPeaceUptoRow.holds Try.pinned (OpenSpec.upto masksPeaceSpec)

/-- 'semaphorelaw08.MasksKnown', WHERE WHAT IT READS IS OF BULK AT MOST 1048576: true; the input reads as it did. -/
def masksKnownUptoRow : OpenClaim := { program := "ytififkielmddpaa", sum := "36c3162c08f0785cb591b3e5a6ca753fb17b0e6ffc117453b63181106d907617", func := "semaphore/semaphorelaw08.MasksKnown", spec := "masksKnown", unfollowed := true, recurses := true, apart := false, narrowed := true }
def MasksKnownUptoSaid : Prop := masksKnownUptoRow.holds Try.pinned (OpenSpec.upto masksKnownSpec)

end Rows
end Go.Proofs.Ytififkielmddpaa
