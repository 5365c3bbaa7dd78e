/-
  No cell of these rows narrows 'for every input' (looked for: loops, veiled, ifaces, maps, wideKeys, modest, calm, conditions, laid).
  DERIVED. THE GIVEN ROWS OF THIS SEAT. 4 by the template 'for every input the law returns true; each argument reads behind the call as it read before'; 0 by the template 'total and deterministic' (their statements: YtbbacmlcimgjbaaTotals.lean).
  GIVEN WITH THE SEED: the statements are not yours to turn. If you find one false, say at which input.
  Laid BY PROGRAM, IN A SANDBOX (cutbox-rows.mjs): the forced cells as the released guide's own fill.sh prints them over the translation a674ad9dc4b2ddd5… (all of the seat's roots in one cut). By AI agents, Wed Nov 11 2026. No macro, syntax, notation, axiom, sorry.
-/
import Derived.Test.YtbbacmlcimgjbaaChecked
import GoSem.Claim
import GoSem.ClaimJoined
import GoSem.ClaimMapViews
import Derived.JoinedTies
import Derived.KernelRfl
namespace Go.Proofs.Ytbbacmlcimgjbaa
/- THE CELL 'sum', in the pinned program and in every row, IS THE sha256 OF THE DUMP (.gsa) THAT YtbbacmlcimgjbaaProg.lean LOADS. Nothing in Lean hashes anything: it is a label: what it is worth is what the hold of that sum in a sandbox is worth. -/
noncomputable def Try.pinned : Pinned := { name := "ytbbacmlcimgjbaa", sum := "a674ad9dc4b2ddd5178020689a0443777149523a0a4d6f101c3562e3fec103f2", checked := Try.checked }
namespace Rows
def none {H : Type} : Left H := { results := [], args := [] }

/-- 'semaphorelaw20.AgreePlays': WHATEVER THE INPUT: true; the input reads as it did. -/
def agreePlaysSpec : ChangeSpec := { name := "agreePlays", fn := fun _ => fun
  | [d1, d2] => { results := [.lit (.bool true)], args := [d1, d2] }
  | _ => none }
def agreePlaysRow : OpenClaim := { program := "ytbbacmlcimgjbaa", sum := "a674ad9dc4b2ddd5178020689a0443777149523a0a4d6f101c3562e3fec103f2", func := "semaphore/semaphorelaw20.AgreePlays", spec := "agreePlays", unfollowed := true, recurses := true, apart := false }
def AgreePlaysSaid : Prop := agreePlaysRow.holds Try.pinned (OpenSpec.ofChange agreePlaysSpec)

/-- ITS FALSE NEIGHBOUR: 'it returns false'. Refute it at one input. -/
def agreePlaysWrong : ChangeSpec := { name := "agreePlays", fn := fun _ => fun
  | [d1, d2] => { results := [.lit (.bool false)], args := [d1, d2] }
  | _ => none }
def AgreePlaysWrongFalsely : Prop := agreePlaysRow.holds Try.pinned (OpenSpec.ofChange agreePlaysWrong)

/-- 'semaphorelaw20.AgreeSame': WHATEVER THE INPUT: true; the input reads as it did. -/
def agreeSameSpec : ChangeSpec := { name := "agreeSame", fn := fun _ => fun
  | [d] => { results := [.lit (.bool true)], args := [d] }
  | _ => none }
def agreeSameRow : OpenClaim := { program := "ytbbacmlcimgjbaa", sum := "a674ad9dc4b2ddd5178020689a0443777149523a0a4d6f101c3562e3fec103f2", func := "semaphore/semaphorelaw20.AgreeSame", spec := "agreeSame", unfollowed := true, recurses := true, apart := false }
def AgreeSameSaid : Prop := agreeSameRow.holds Try.pinned (OpenSpec.ofChange agreeSameSpec)

/-- ITS FALSE NEIGHBOUR: 'it returns false'. Refute it at one input. -/
def agreeSameWrong : ChangeSpec := { name := "agreeSame", fn := fun _ => fun
  | [d] => { results := [.lit (.bool false)], args := [d] }
  | _ => none }
def AgreeSameWrongFalsely : Prop := agreeSameRow.holds Try.pinned (OpenSpec.ofChange agreeSameWrong)

/-- 'semaphorelaw20.AgreeNone': WHATEVER THE INPUT: true; the input reads as it did. -/
def agreeNoneSpec : ChangeSpec := { name := "agreeNone", fn := fun _ => fun
  | [d1, d2] => { results := [.lit (.bool true)], args := [d1, d2] }
  | _ => none }
def agreeNoneRow : OpenClaim := { program := "ytbbacmlcimgjbaa", sum := "a674ad9dc4b2ddd5178020689a0443777149523a0a4d6f101c3562e3fec103f2", func := "semaphore/semaphorelaw20.AgreeNone", spec := "agreeNone", unfollowed := true, recurses := true, apart := false }
def AgreeNoneSaid : Prop := agreeNoneRow.holds Try.pinned (OpenSpec.ofChange agreeNoneSpec)

/-- ITS FALSE NEIGHBOUR: 'it returns false'. Refute it at one input. -/
def agreeNoneWrong : ChangeSpec := { name := "agreeNone", fn := fun _ => fun
  | [d1, d2] => { results := [.lit (.bool false)], args := [d1, d2] }
  | _ => none }
def AgreeNoneWrongFalsely : Prop := agreeNoneRow.holds Try.pinned (OpenSpec.ofChange agreeNoneWrong)

/-- 'semaphorelaw20.AgreeKnown': WHATEVER THE INPUT: true; the input reads as it did. -/
def agreeKnownSpec : ChangeSpec := { name := "agreeKnown", fn := fun _ => fun
  | [] => { results := [.lit (.bool true)], args := [] }
  | _ => none }
def agreeKnownRow : OpenClaim := { program := "ytbbacmlcimgjbaa", sum := "a674ad9dc4b2ddd5178020689a0443777149523a0a4d6f101c3562e3fec103f2", func := "semaphore/semaphorelaw20.AgreeKnown", spec := "agreeKnown", unfollowed := true, recurses := true, apart := false }
def AgreeKnownSaid : Prop := agreeKnownRow.holds Try.pinned (OpenSpec.ofChange agreeKnownSpec)

/-- ITS FALSE NEIGHBOUR: 'it returns false'. Refute it at one input. -/
def agreeKnownWrong : ChangeSpec := { name := "agreeKnown", fn := fun _ => fun
  | [] => { results := [.lit (.bool false)], args := [] }
  | _ => none }
def AgreeKnownWrongFalsely : Prop := agreeKnownRow.holds Try.pinned (OpenSpec.ofChange agreeKnownWrong)

/- THE SECOND FORM. 'bulk': how many values and letters a reading holds, each counted each time it is reached (what is shared counts as often as it is met; a slice's spare places count too). A statement '..UptoSaid' is the law's where the arguments, and the package variables that the reading takes, are together of bulk at most 1048576: NARROWER than '..Said'. Prove '..Said' where nothing that the law and all that it calls make is longer than what came in: it says more and counts as full. Else prove '..UptoSaid'. A law counts once. -/
mutual
def uptoBulk {H : Type} : DataW H → Nat
  | .lit (.string bytes) => bytes.length + 1
  | .lit _ => 1
  | .nil => 1
  | .ptr d => uptoBulk d + 1
  | .slice elems spare => uptoBulkAll elems + uptoBulkAll spare + 1
  | .agg parts => uptoBulkAll parts + 1
  | .iface _ d => uptoBulk d + 1
  | .map entries => uptoBulkEntries entries + 1
  | .held _ => 1
def uptoBulkAll {H : Type} : List (DataW H) → Nat
  | [] => 0
  | d :: r => uptoBulk d + uptoBulkAll r
def uptoBulkEntries {H : Type} : List (Lit × DataW H) → Nat
  | [] => 0
  | x :: r => uptoBulkEntry x + uptoBulkEntries r
def uptoBulkEntry {H : Type} : Lit × DataW H → Nat
  | (.string bytes, d) => bytes.length + uptoBulk d + 1
  | (_, d) => uptoBulk d + 1
 end
def uptoSmall : (H : Type) → List (DataW H) → Bool := fun _ ds => decide (uptoBulkAll ds ≤ 1048576)
def OpenSpec.upto (s : _root_.Go.ChangeSpec) : _root_.Go.OpenSpec := { _root_.Go.OpenSpec.ofChange s with cond := some uptoSmall }

/-- 'semaphorelaw20.AgreePlays', WHERE WHAT IT READS IS OF BULK AT MOST 1048576: true; the input reads as it did. -/
def agreePlaysUptoRow : OpenClaim := { program := "ytbbacmlcimgjbaa", sum := "a674ad9dc4b2ddd5178020689a0443777149523a0a4d6f101c3562e3fec103f2", func := "semaphore/semaphorelaw20.AgreePlays", spec := "agreePlays", unfollowed := true, recurses := true, apart := false, narrowed := true }
def AgreePlaysUptoSaid : Prop := agreePlaysUptoRow.holds Try.pinned (OpenSpec.upto agreePlaysSpec)

/-- 'semaphorelaw20.AgreeSame', WHERE WHAT IT READS IS OF BULK AT MOST 1048576: true; the input reads as it did. -/
def agreeSameUptoRow : OpenClaim := { program := "ytbbacmlcimgjbaa", sum := "a674ad9dc4b2ddd5178020689a0443777149523a0a4d6f101c3562e3fec103f2", func := "semaphore/semaphorelaw20.AgreeSame", spec := "agreeSame", unfollowed := true, recurses := true, apart := false, narrowed := true }
def AgreeSameUptoSaid : Prop := agreeSameUptoRow.holds Try.pinned (OpenSpec.upto agreeSameSpec)

/-- 'semaphorelaw20.AgreeNone', WHERE WHAT IT READS IS OF BULK AT MOST 1048576: true; the input reads as it did. -/
def agreeNoneUptoRow : OpenClaim := { program := "ytbbacmlcimgjbaa", sum := "a674ad9dc4b2ddd5178020689a0443777149523a0a4d6f101c3562e3fec103f2", func := "semaphore/semaphorelaw20.AgreeNone", spec := "agreeNone", unfollowed := true, recurses := true, apart := false, narrowed := true }
def AgreeNoneUptoSaid : Prop := agreeNoneUptoRow.holds Try.pinned (OpenSpec.upto agreeNoneSpec)

/-- 'semaphorelaw20.AgreeKnown', WHERE WHAT IT READS IS OF BULK AT MOST 1048576: true; the input reads as it did. -/
def agreeKnownUptoRow : OpenClaim := { program := "ytbbacmlcimgjbaa", sum := "a674ad9dc4b2ddd5178020689a0443777149523a0a4d6f101c3562e3fec103f2", func := "semaphore/semaphorelaw20.AgreeKnown", spec := "agreeKnown", unfollowed := true, recurses := true, apart := false, narrowed := true }
def AgreeKnownUptoSaid : Prop := agreeKnownUptoRow.holds Try.pinned (OpenSpec.upto agreeKnownSpec)

end Rows
end Go.Proofs.Ytbbacmlcimgjbaa
