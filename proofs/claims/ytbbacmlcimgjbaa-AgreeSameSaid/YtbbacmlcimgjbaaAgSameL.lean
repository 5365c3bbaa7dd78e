/-
  AgreeSame of chapter 20, for whatever comes in.
-/
import Derived.Test.YtbbacmlcimgjbaaAgSame
namespace Go.Proofs.Ytbbacmlcimgjbaa
open Go.RowKit
theorem walk_AgreeSame (a0 : Option Addr) (len0 cap0 : Nat) (w : World) (w0 : Rd Try.prog w 58 [.slice a0 len0 cap0]) :
    Calls Try.prog 4 #[.slice a0 len0 cap0] w fun e w' => e = .returned (.bool true) ∧ Below w.heap.size w w' := by
  obtain ⟨l, h1, h2, h3⟩ := ways_of w0
  exact same_law a0 len0 cap0 l w h1 h2 (by unfold WaysAt at *; exact h3)
end Go.Proofs.Ytbbacmlcimgjbaa
