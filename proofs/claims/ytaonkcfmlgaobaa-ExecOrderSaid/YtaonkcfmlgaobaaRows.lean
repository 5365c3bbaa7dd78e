/-
  No cell of these rows narrows 'for every input' (looked for: loops, veiled, ifaces, maps, wideKeys, modest, calm, conditions, laid).
  DERIVED. THE GIVEN ROWS OF THIS SEAT. 2 by the template 'for every input the law returns true; each argument reads behind the call as it read before'; 0 by the template 'total and deterministic' (their statements: YtaonkcfmlgaobaaTotals.lean).
  GIVEN WITH THE SEED: the statements are not yours to turn. If you find one false, say at which input.
  Laid BY PROGRAM, IN A SANDBOX (cutbox-rows.mjs): the forced cells as the released guide's own fill.sh prints them over the translation 85370fd478d80d6e… (all of the seat's roots in one cut). By AI agents, Wed Nov 11 2026. No macro, syntax, notation, axiom, sorry.
-/
import Derived.Test.YtaonkcfmlgaobaaChecked
import GoSem.Claim
import GoSem.ClaimJoined
import GoSem.ClaimMapViews
import Derived.JoinedTies
import Derived.KernelRfl
namespace Go.Proofs.Ytaonkcfmlgaobaa
/- THE CELL 'sum', in the pinned program and in every row, IS THE sha256 OF THE DUMP (.gsa) THAT YtaonkcfmlgaobaaProg.lean LOADS. Nothing in Lean hashes anything: it is a label: what it is worth is what the hold of that sum in a sandbox is worth. -/
noncomputable def Try.pinned : Pinned := { name := "ytaonkcfmlgaobaa", sum := "85370fd478d80d6e6c0626001baf5566f14eff8e04919563c812f609b3400c41", checked := Try.checked }
namespace Rows
def none {H : Type} : Left H := { results := [], args := [] }

/-- 'semaphorelaw19.ExecPlays': WHATEVER THE INPUT: true; the input reads as it did. -/
def execPlaysSpec : ChangeSpec := { name := "execPlays", fn := fun _ => fun
  | [d1, d2, d3, d4] => { results := [.lit (.bool true)], args := [d1, d2, d3, d4] }
  | _ => none }
def execPlaysRow : OpenClaim := { program := "ytaonkcfmlgaobaa", sum := "85370fd478d80d6e6c0626001baf5566f14eff8e04919563c812f609b3400c41", func := "semaphore/semaphorelaw19.ExecPlays", spec := "execPlays", apart := false }
def ExecPlaysSaid : Prop := execPlaysRow.holds Try.pinned (OpenSpec.ofChange execPlaysSpec)

/-- ITS FALSE NEIGHBOUR: 'it returns false'. Refute it at one input. -/
def execPlaysWrong : ChangeSpec := { name := "execPlays", fn := fun _ => fun
  | [d1, d2, d3, d4] => { results := [.lit (.bool false)], args := [d1, d2, d3, d4] }
  | _ => none }
def ExecPlaysWrongFalsely : Prop := execPlaysRow.holds Try.pinned (OpenSpec.ofChange execPlaysWrong)

/-- 'semaphorelaw19.ExecOrder': WHATEVER THE INPUT: true; the input reads as it did. -/
def execOrderSpec : ChangeSpec := { name := "execOrder", fn := fun _ => fun
  | [d1, d2, d3] => { results := [.lit (.bool true)], args := [d1, d2, d3] }
  | _ => none }
def execOrderRow : OpenClaim := { program := "ytaonkcfmlgaobaa", sum := "85370fd478d80d6e6c0626001baf5566f14eff8e04919563c812f609b3400c41", func := "semaphore/semaphorelaw19.ExecOrder", spec := "execOrder", apart := false }
def ExecOrderSaid : Prop := execOrderRow.holds Try.pinned (OpenSpec.ofChange execOrderSpec)

/-- ITS FALSE NEIGHBOUR: 'it returns false'. Refute it at one input. -/
def execOrderWrong : ChangeSpec := { name := "execOrder", fn := fun _ => fun
  | [d1, d2, d3] => { results := [.lit (.bool false)], args := [d1, d2, d3] }
  | _ => none }
def ExecOrderWrongFalsely : Prop := execOrderRow.holds Try.pinned (OpenSpec.ofChange execOrderWrong)

/- THE SECOND FORM. 'bulk': how many values and letters a reading holds, each counted each time it is reached (what is shared counts as often as it is met; a slice's spare places count too). A statement '..UptoSaid' is the law's where the arguments, and the package variables that the reading takes, are together of bulk at most 1048576: NARROWER than '..Said'. Prove '..Said' where nothing that the law and all that it calls make is longer than what came in: it says more and counts as full. Else prove '..UptoSaid'. A law counts once. -/
mutual
def uptoBulk {H : Type} : DataW H → Nat
  | .lit (.string bytes) => bytes.length + 1
  | .lit _ => 1
  | .nil => 1
  | .ptr d => uptoBulk d + 1
  | .slice elems spare => uptoBulkAll elems + uptoBulkAll spare + 1
  | .agg parts => uptoBulkAll parts + 1
  | .iface _ d => uptoBulk d + 1
  | .map entries => uptoBulkEntries entries + 1
  | .held _ => 1
def uptoBulkAll {H : Type} : List (DataW H) → Nat
  | [] => 0
  | d :: r => uptoBulk d + uptoBulkAll r
def uptoBulkEntries {H : Type} : List (Lit × DataW H) → Nat
  | [] => 0
  | x :: r => uptoBulkEntry x + uptoBulkEntries r
def uptoBulkEntry {H : Type} : Lit × DataW H → Nat
  | (.string bytes, d) => bytes.length + uptoBulk d + 1
  | (_, d) => uptoBulk d + 1
 end
def uptoSmall : (H : Type) → List (DataW H) → Bool := fun _ ds => decide (uptoBulkAll ds ≤ 1048576)
def OpenSpec.upto (s : _root_.Go.ChangeSpec) : _root_.Go.OpenSpec := { _root_.Go.OpenSpec.ofChange s with cond := some uptoSmall }

/-- 'semaphorelaw19.ExecPlays', WHERE WHAT IT READS IS OF BULK AT MOST 1048576: true; the input reads as it did. -/
def execPlaysUptoRow : OpenClaim := { program := "ytaonkcfmlgaobaa", sum := "85370fd478d80d6e6c0626001baf5566f14eff8e04919563c812f609b3400c41", func := "semaphore/semaphorelaw19.ExecPlays", spec := "execPlays", apart := false, narrowed := true }
def ExecPlaysUptoSaid : Prop := execPlaysUptoRow.holds Try.pinned (OpenSpec.upto execPlaysSpec)

/-- 'semaphorelaw19.ExecOrder', WHERE WHAT IT READS IS OF BULK AT MOST 1048576: true; the input reads as it did. -/
def execOrderUptoRow : OpenClaim := { program := "ytaonkcfmlgaobaa", sum := "85370fd478d80d6e6c0626001baf5566f14eff8e04919563c812f609b3400c41", func := "semaphore/semaphorelaw19.ExecOrder", spec := "execOrder", apart := false, narrowed := true }
def ExecOrderUptoSaid : Prop := execOrderUptoRow.holds Try.pinned (OpenSpec.upto execOrderSpec)

end Rows
end Go.Proofs.Ytaonkcfmlgaobaa
