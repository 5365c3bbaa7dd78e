/-
  The walk of the statement DiskKeeps of chapter 14, at its arguments.
-/
import Derived.Test.YtncijclhfndniaaDiskN
namespace Go.Proofs.Ytncijclhfndniaa
open Go.RowKit
theorem walk_DiskKeeps (a0 : Option Addr) (len0 cap0 : Nat) (a1 : Int) (w : World) (w0 : Rd Try.prog w 22 [.slice a0 len0 cap0]) (w1 : (Lit.int .i64 a1).wf = true) :
    Calls Try.prog 3 #[.slice a0 len0 cap0, .int .i64 a1] w fun e w' => e = .returned (.bool true) ∧ Below w.heap.size w w' := by
  obtain ⟨l, h1, h2, h3⟩ := cls_of w0
  exact keeps_any a0 len0 cap0 l a1 w h1 h2 h3 (i64_bounds w1).2
end Go.Proofs.Ytncijclhfndniaa
