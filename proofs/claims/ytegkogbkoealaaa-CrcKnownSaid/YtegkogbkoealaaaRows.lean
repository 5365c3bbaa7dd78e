/-
  No cell of these rows narrows 'for every input' (looked for: loops, veiled, ifaces, maps, wideKeys, modest, calm, conditions, laid).
  DERIVED. THE GIVEN ROWS OF THIS SEAT. 8 by the template 'for every input the law returns true; each argument reads behind the call as it read before'; 0 by the template 'total and deterministic' (their statements: YtegkogbkoealaaaTotals.lean).
  GIVEN WITH THE SEED: the statements are not yours to turn. If you find one false, say at which input.
  Laid BY PROGRAM, IN A SANDBOX (cutbox-rows.mjs): the forced cells as the released guide's own fill.sh prints them over the translation fef623cd6ef6bf42… (all of the seat's roots in one cut). By AI agents, Wed Nov 11 2026. No macro, syntax, notation, axiom, sorry.
-/
import Derived.Test.YtegkogbkoealaaaChecked
import GoSem.Claim
import GoSem.ClaimJoined
import GoSem.ClaimMapViews
import Derived.JoinedTies
import Derived.KernelRfl
namespace Go.Proofs.Ytegkogbkoealaaa
/- THE CELL 'sum', in the pinned program and in every row, IS THE sha256 OF THE DUMP (.gsa) THAT YtegkogbkoealaaaProg.lean LOADS. Nothing in Lean hashes anything: it is a label: what it is worth is what the hold of that sum in a sandbox is worth. -/
noncomputable def Try.pinned : Pinned := { name := "ytegkogbkoealaaa", sum := "fef623cd6ef6bf4204ab4689011d82cdf7c0b87823bcf4b7831e3fd94e4142e9", checked := Try.checked }
namespace Rows
def none {H : Type} : Left H := { results := [], args := [] }

/-- 'semaphorelaw01.CrcBytes': WHATEVER THE INPUT: true; the input reads as it did. -/
def crcBytesSpec : ChangeSpec := { name := "crcBytes", fn := fun _ => fun
  | [d] => { results := [.lit (.bool true)], args := [d] }
  | _ => none }
def crcBytesRow : OpenClaim := { program := "ytegkogbkoealaaa", sum := "fef623cd6ef6bf4204ab4689011d82cdf7c0b87823bcf4b7831e3fd94e4142e9", func := "semaphore/semaphorelaw01.CrcBytes", spec := "crcBytes", unfollowed := true, recurses := true, apart := false }
def CrcBytesSaid : Prop := crcBytesRow.holds Try.pinned (OpenSpec.ofChange crcBytesSpec)

/-- ITS FALSE NEIGHBOUR: 'it returns false'. Refute it at one input. -/
def crcBytesWrong : ChangeSpec := { name := "crcBytes", fn := fun _ => fun
  | [d] => { results := [.lit (.bool false)], args := [d] }
  | _ => none }
def CrcBytesWrongFalsely : Prop := crcBytesRow.holds Try.pinned (OpenSpec.ofChange crcBytesWrong)

/-- 'semaphorelaw01.CrcChange': WHATEVER THE INPUT: true; the input reads as it did. -/
def crcChangeSpec : ChangeSpec := { name := "crcChange", fn := fun _ => fun
  | [d1, d2, d3, d4] => { results := [.lit (.bool true)], args := [d1, d2, d3, d4] }
  | _ => none }
def crcChangeRow : OpenClaim := { program := "ytegkogbkoealaaa", sum := "fef623cd6ef6bf4204ab4689011d82cdf7c0b87823bcf4b7831e3fd94e4142e9", func := "semaphore/semaphorelaw01.CrcChange", spec := "crcChange", unfollowed := true, recurses := true, apart := false }
def CrcChangeSaid : Prop := crcChangeRow.holds Try.pinned (OpenSpec.ofChange crcChangeSpec)

/-- ITS FALSE NEIGHBOUR: 'it returns false'. Refute it at one input. -/
def crcChangeWrong : ChangeSpec := { name := "crcChange", fn := fun _ => fun
  | [d1, d2, d3, d4] => { results := [.lit (.bool false)], args := [d1, d2, d3, d4] }
  | _ => none }
def CrcChangeWrongFalsely : Prop := crcChangeRow.holds Try.pinned (OpenSpec.ofChange crcChangeWrong)

/-- 'semaphorelaw01.CrcFind': WHATEVER THE INPUT: true; the input reads as it did. -/
def crcFindSpec : ChangeSpec := { name := "crcFind", fn := fun _ => fun
  | [d1, d2, d3, d4] => { results := [.lit (.bool true)], args := [d1, d2, d3, d4] }
  | _ => none }
def crcFindRow : OpenClaim := { program := "ytegkogbkoealaaa", sum := "fef623cd6ef6bf4204ab4689011d82cdf7c0b87823bcf4b7831e3fd94e4142e9", func := "semaphore/semaphorelaw01.CrcFind", spec := "crcFind", unfollowed := true, recurses := true, apart := false }
def CrcFindSaid : Prop := crcFindRow.holds Try.pinned (OpenSpec.ofChange crcFindSpec)

/-- ITS FALSE NEIGHBOUR: 'it returns false'. Refute it at one input. -/
def crcFindWrong : ChangeSpec := { name := "crcFind", fn := fun _ => fun
  | [d1, d2, d3, d4] => { results := [.lit (.bool false)], args := [d1, d2, d3, d4] }
  | _ => none }
def CrcFindWrongFalsely : Prop := crcFindRow.holds Try.pinned (OpenSpec.ofChange crcFindWrong)

/-- 'semaphorelaw01.CrcRow': WHATEVER THE INPUT: true; the input reads as it did. -/
def crcRowSpec : ChangeSpec := { name := "crcRow", fn := fun _ => fun
  | [d1, d2, d3] => { results := [.lit (.bool true)], args := [d1, d2, d3] }
  | _ => none }
def crcRowRow : OpenClaim := { program := "ytegkogbkoealaaa", sum := "fef623cd6ef6bf4204ab4689011d82cdf7c0b87823bcf4b7831e3fd94e4142e9", func := "semaphore/semaphorelaw01.CrcRow", spec := "crcRow", unfollowed := true, recurses := true, apart := false }
def CrcRowSaid : Prop := crcRowRow.holds Try.pinned (OpenSpec.ofChange crcRowSpec)

/-- ITS FALSE NEIGHBOUR: 'it returns false'. Refute it at one input. -/
def crcRowWrong : ChangeSpec := { name := "crcRow", fn := fun _ => fun
  | [d1, d2, d3] => { results := [.lit (.bool false)], args := [d1, d2, d3] }
  | _ => none }
def CrcRowWrongFalsely : Prop := crcRowRow.holds Try.pinned (OpenSpec.ofChange crcRowWrong)

/-- 'semaphorelaw01.CrcMended': WHATEVER THE INPUT: true; the input reads as it did. -/
def crcMendedSpec : ChangeSpec := { name := "crcMended", fn := fun _ => fun
  | [d1, d2, d3] => { results := [.lit (.bool true)], args := [d1, d2, d3] }
  | _ => none }
def crcMendedRow : OpenClaim := { program := "ytegkogbkoealaaa", sum := "fef623cd6ef6bf4204ab4689011d82cdf7c0b87823bcf4b7831e3fd94e4142e9", func := "semaphore/semaphorelaw01.CrcMended", spec := "crcMended", unfollowed := true, recurses := true, apart := false }
def CrcMendedSaid : Prop := crcMendedRow.holds Try.pinned (OpenSpec.ofChange crcMendedSpec)

/-- ITS FALSE NEIGHBOUR: 'it returns false'. Refute it at one input. -/
def crcMendedWrong : ChangeSpec := { name := "crcMended", fn := fun _ => fun
  | [d1, d2, d3] => { results := [.lit (.bool false)], args := [d1, d2, d3] }
  | _ => none }
def CrcMendedWrongFalsely : Prop := crcMendedRow.holds Try.pinned (OpenSpec.ofChange crcMendedWrong)

/-- 'semaphorelaw01.CrcOrders': WHATEVER THE INPUT: true; the input reads as it did. -/
def crcOrdersSpec : ChangeSpec := { name := "crcOrders", fn := fun _ => fun
  | [d1, d2, d3, d4, d5, d6, d7] => { results := [.lit (.bool true)], args := [d1, d2, d3, d4, d5, d6, d7] }
  | _ => none }
def crcOrdersRow : OpenClaim := { program := "ytegkogbkoealaaa", sum := "fef623cd6ef6bf4204ab4689011d82cdf7c0b87823bcf4b7831e3fd94e4142e9", func := "semaphore/semaphorelaw01.CrcOrders", spec := "crcOrders", unfollowed := true, recurses := true, apart := false }
def CrcOrdersSaid : Prop := crcOrdersRow.holds Try.pinned (OpenSpec.ofChange crcOrdersSpec)

/-- ITS FALSE NEIGHBOUR: 'it returns false'. Refute it at one input. -/
def crcOrdersWrong : ChangeSpec := { name := "crcOrders", fn := fun _ => fun
  | [d1, d2, d3, d4, d5, d6, d7] => { results := [.lit (.bool false)], args := [d1, d2, d3, d4, d5, d6, d7] }
  | _ => none }
def CrcOrdersWrongFalsely : Prop := crcOrdersRow.holds Try.pinned (OpenSpec.ofChange crcOrdersWrong)

/-- 'semaphorelaw01.CrcNear': WHATEVER THE INPUT: true; the input reads as it did. -/
def crcNearSpec : ChangeSpec := { name := "crcNear", fn := fun _ => fun
  | [d1, d2, d3, d4, d5] => { results := [.lit (.bool true)], args := [d1, d2, d3, d4, d5] }
  | _ => none }
def crcNearRow : OpenClaim := { program := "ytegkogbkoealaaa", sum := "fef623cd6ef6bf4204ab4689011d82cdf7c0b87823bcf4b7831e3fd94e4142e9", func := "semaphore/semaphorelaw01.CrcNear", spec := "crcNear", unfollowed := true, recurses := true, apart := false }
def CrcNearSaid : Prop := crcNearRow.holds Try.pinned (OpenSpec.ofChange crcNearSpec)

/-- ITS FALSE NEIGHBOUR: 'it returns false'. Refute it at one input. -/
def crcNearWrong : ChangeSpec := { name := "crcNear", fn := fun _ => fun
  | [d1, d2, d3, d4, d5] => { results := [.lit (.bool false)], args := [d1, d2, d3, d4, d5] }
  | _ => none }
def CrcNearWrongFalsely : Prop := crcNearRow.holds Try.pinned (OpenSpec.ofChange crcNearWrong)

/-- 'semaphorelaw01.CrcKnown': WHATEVER THE INPUT: true; the input reads as it did. -/
def crcKnownSpec : ChangeSpec := { name := "crcKnown", fn := fun _ => fun
  | [] => { results := [.lit (.bool true)], args := [] }
  | _ => none }
def crcKnownRow : OpenClaim := { program := "ytegkogbkoealaaa", sum := "fef623cd6ef6bf4204ab4689011d82cdf7c0b87823bcf4b7831e3fd94e4142e9", func := "semaphore/semaphorelaw01.CrcKnown", spec := "crcKnown", unfollowed := true, recurses := true, apart := false }
def CrcKnownSaid : Prop := crcKnownRow.holds Try.pinned (OpenSpec.ofChange crcKnownSpec)

/-- ITS FALSE NEIGHBOUR: 'it returns false'. Refute it at one input. -/
def crcKnownWrong : ChangeSpec := { name := "crcKnown", fn := fun _ => fun
  | [] => { results := [.lit (.bool false)], args := [] }
  | _ => none }
def CrcKnownWrongFalsely : Prop := crcKnownRow.holds Try.pinned (OpenSpec.ofChange crcKnownWrong)

/- THE SECOND FORM. 'bulk': how many values and letters a reading holds, each counted each time it is reached (what is shared counts as often as it is met; a slice's spare places count too). A statement '..UptoSaid' is the law's where the arguments, and the package variables that the reading takes, are together of bulk at most 1048576: NARROWER than '..Said'. Prove '..Said' where nothing that the law and all that it calls make is longer than what came in: it says more and counts as full. Else prove '..UptoSaid'. A law counts once. -/
mutual
def uptoBulk {H : Type} : DataW H → Nat
  | .lit (.string bytes) => bytes.length + 1
  | .lit _ => 1
  | .nil => 1
  | .ptr d => uptoBulk d + 1
  | .slice elems spare => uptoBulkAll elems + uptoBulkAll spare + 1
  | .agg parts => uptoBulkAll parts + 1
  | .iface _ d => uptoBulk d + 1
  | .map entries => uptoBulkEntries entries + 1
  | .held _ => 1
def uptoBulkAll {H : Type} : List (DataW H) → Nat
  | [] => 0
  | d :: r => uptoBulk d + uptoBulkAll r
def uptoBulkEntries {H : Type} : List (Lit × DataW H) → Nat
  | [] => 0
  | x :: r => uptoBulkEntry x + uptoBulkEntries r
def uptoBulkEntry {H : Type} : Lit × DataW H → Nat
  | (.string bytes, d) => bytes.length + uptoBulk d + 1
  | (_, d) => uptoBulk d + 1
 end
def uptoSmall : (H : Type) → List (DataW H) → Bool := fun _ ds => decide (uptoBulkAll ds ≤ 1048576)
def OpenSpec.upto (s : _root_.Go.ChangeSpec) : _root_.Go.OpenSpec := { _root_.Go.OpenSpec.ofChange s with cond := some uptoSmall }

/-- 'semaphorelaw01.CrcBytes', WHERE WHAT IT READS IS OF BULK AT MOST 1048576: true; the input reads as it did. -/
def crcBytesUptoRow : OpenClaim := { program := "ytegkogbkoealaaa", sum := "fef623cd6ef6bf4204ab4689011d82cdf7c0b87823bcf4b7831e3fd94e4142e9", func := "semaphore/semaphorelaw01.CrcBytes", spec := "crcBytes", unfollowed := true, recurses := true, apart := false, narrowed := true }
def CrcBytesUptoSaid : Prop := crcBytesUptoRow.holds Try.pinned (OpenSpec.upto crcBytesSpec)

/-- 'semaphorelaw01.CrcChange', WHERE WHAT IT READS IS OF BULK AT MOST 1048576: true; the input reads as it did. -/
def crcChangeUptoRow : OpenClaim := { program := "ytegkogbkoealaaa", sum := "fef623cd6ef6bf4204ab4689011d82cdf7c0b87823bcf4b7831e3fd94e4142e9", func := "semaphore/semaphorelaw01.CrcChange", spec := "crcChange", unfollowed := true, recurses := true, apart := false, narrowed := true }
def CrcChangeUptoSaid : Prop := crcChangeUptoRow.holds Try.pinned (OpenSpec.upto crcChangeSpec)

/-- 'semaphorelaw01.CrcFind', WHERE WHAT IT READS IS OF BULK AT MOST 1048576: true; the input reads as it did. -/
def crcFindUptoRow : OpenClaim := { program := "ytegkogbkoealaaa", sum := "fef623cd6ef6bf4204ab4689011d82cdf7c0b87823bcf4b7831e3fd94e4142e9", func := "semaphore/semaphorelaw01.CrcFind", spec := "crcFind", unfollowed := true, recurses := true, apart := false, narrowed := true }
def CrcFindUptoSaid : Prop := crcFindUptoRow.holds Try.pinned (OpenSpec.upto crcFindSpec)

/-- 'semaphorelaw01.CrcRow', WHERE WHAT IT READS IS OF BULK AT MOST 1048576: true; the input reads as it did. -/
def crcRowUptoRow : OpenClaim := { program := "ytegkogbkoealaaa", sum := "fef623cd6ef6bf4204ab4689011d82cdf7c0b87823bcf4b7831e3fd94e4142e9", func := "semaphore/semaphorelaw01.CrcRow", spec := "crcRow", unfollowed := true, recurses := true, apart := false, narrowed := true }
def CrcRowUptoSaid : Prop := crcRowUptoRow.holds Try.pinned (OpenSpec.upto crcRowSpec)

/-- 'semaphorelaw01.CrcMended', WHERE WHAT IT READS IS OF BULK AT MOST 1048576: true; the input reads as it did. -/
def crcMendedUptoRow : OpenClaim := { program := "ytegkogbkoealaaa", sum := "fef623cd6ef6bf4204ab4689011d82cdf7c0b87823bcf4b7831e3fd94e4142e9", func := "semaphore/semaphorelaw01.CrcMended", spec := "crcMended", unfollowed := true, recurses := true, apart := false, narrowed := true }
def CrcMendedUptoSaid : Prop := crcMendedUptoRow.holds Try.pinned (OpenSpec.upto crcMendedSpec)

/-- 'semaphorelaw01.CrcOrders', WHERE WHAT IT READS IS OF BULK AT MOST 1048576: true; the input reads as it did. -/
def crcOrdersUptoRow : OpenClaim := { program := "ytegkogbkoealaaa", sum := "fef623cd6ef6bf4204ab4689011d82cdf7c0b87823bcf4b7831e3fd94e4142e9", func := "semaphore/semaphorelaw01.CrcOrders", spec := "crcOrders", unfollowed := true, recurses := true, apart := false, narrowed := true }
def CrcOrdersUptoSaid : Prop := crcOrdersUptoRow.holds Try.pinned (OpenSpec.upto crcOrdersSpec)

/-- 'semaphorelaw01.CrcNear', WHERE WHAT IT READS IS OF BULK AT MOST 1048576: true; the input reads as it did. -/
def crcNearUptoRow : OpenClaim := { program := "ytegkogbkoealaaa", sum := "fef623cd6ef6bf4204ab4689011d82cdf7c0b87823bcf4b7831e3fd94e4142e9", func := "semaphore/semaphorelaw01.CrcNear", spec := "crcNear", unfollowed := true, recurses := true, apart := false, narrowed := true }
def CrcNearUptoSaid : Prop := crcNearUptoRow.holds Try.pinned (OpenSpec.upto crcNearSpec)

/-- 'semaphorelaw01.CrcKnown', WHERE WHAT IT READS IS OF BULK AT MOST 1048576: true; the input reads as it did. -/
def crcKnownUptoRow : OpenClaim := { program := "ytegkogbkoealaaa", sum := "fef623cd6ef6bf4204ab4689011d82cdf7c0b87823bcf4b7831e3fd94e4142e9", func := "semaphore/semaphorelaw01.CrcKnown", spec := "crcKnown", unfollowed := true, recurses := true, apart := false, narrowed := true }
def CrcKnownUptoSaid : Prop := crcKnownUptoRow.holds Try.pinned (OpenSpec.upto crcKnownSpec)

end Rows
end Go.Proofs.Ytegkogbkoealaaa
