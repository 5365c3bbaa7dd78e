/-
 Layer 10: the walk of IlxaTidy.
-/
import Derived.Test.YtjienmjpfklgeaaIyE
import Derived.Test.YtjienmjpfklgeaaIyR
namespace Go.Proofs.Ytjienmjpfklgeaa
open Go.RowKit
set_option maxRecDepth 100000
theorem walk_IlxaTidy (v0 v1 : Array Value) (w : World) (_s0 : v0.size = Try.prog.cellsOf 27) (w0 : Rd Try.prog w 27 v0.toList) (_s1 : v1.size = Try.prog.cellsOf 32) (w1 : Rd Try.prog w 32 v1.toList) :
 Calls Try.prog 5 #[.agg v0, .agg v1] w fun e w' => e = .returned (.bool true) ∧ Below w.heap.size w w' := by
 obtain ⟨L, hv, hL⟩ := lay_of w0
 obtain rfl : v0 = #[L.se.v, L.po.v, L.sg.v, L.rt.v] := by apply Array.toList_inj.1; rw [hv]
 obtain ⟨s, rfl, hs⟩ := state_rd w1
 exact ilxaTidy_is L s w hL hs
end Go.Proofs.Ytjienmjpfklgeaa
