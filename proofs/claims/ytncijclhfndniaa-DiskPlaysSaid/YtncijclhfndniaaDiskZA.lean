/-
  The walk of the statement DiskPlays of chapter 14, at its arguments.
-/
import Derived.Test.YtncijclhfndniaaDiskZ
namespace Go.Proofs.Ytncijclhfndniaa
open Go.RowKit
theorem walk_DiskPlays (a0 : Int) (a1 : Option Addr) (len1 cap1 : Nat) (w : World) (_w0 : (Lit.int .i64 a0).wf = true) (w1 : Rd Try.prog w 22 [.slice a1 len1 cap1]) :
    Calls Try.prog 4 #[.int .i64 a0, .slice a1 len1 cap1] w fun e w' => e = .returned (.bool true) ∧ Below w.heap.size w w' := by
  obtain ⟨l, h1, h2, h3⟩ := cls_of w1
  exact plays_any a0 a1 len1 cap1 l w h1 h2 h3
end Go.Proofs.Ytncijclhfndniaa
