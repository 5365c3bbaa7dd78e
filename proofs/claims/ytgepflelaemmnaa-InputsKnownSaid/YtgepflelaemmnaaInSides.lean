/-
  Walks of package inputs and of the document's answer for chapter 9: Sides; the yard, told by the lengths of its rows.
-/
import Derived.Test.YtgepflelaemmnaaInRefMerge
namespace Go.Proofs.Ytgepflelaemmnaa
open Go.RowKit

def sideVal (n r : Nat) : Value := .tuple #[.int .u32 (bits .andNot .u32 n r), .int .u32 (bits .andNot .u32 r n)]
theorem sides_any (o n r : Nat) (a : Option Addr) (len cap : Nat) (w : World) :
    Calls Try.prog 15 #[.agg #[.int .u64 (o : Int), .int .u32 (n : Int), .int .u32 (r : Int), .slice a len cap]] w
      fun e w' => e = .returned (.tuple #[.int .u32 (bits .andNot .u32 n r), .int .u32 (bits .andNot .u32 r n)]) ∧ Below w.heap.size w w' := by
  go_enter Try.func15, Try.ntmps15
  go_wp2
  go_quiet (fail)
  go_wp2
  go_ret2
  exact ⟨rfl, below_drewN (below1 _ _) _⟩
theorem refsides_any (o n r : Nat) (a : Option Addr) (len cap : Nat) (w : World) :
    Calls Try.prog 16 #[.agg #[.int .u64 (o : Int), .int .u32 (n : Int), .int .u32 (r : Int), .slice a len cap]] w
      fun e w' => e = .returned (.tuple #[.int .u32 (bits .andNot .u32 n r), .int .u32 (bits .andNot .u32 r n)]) ∧ Below w.heap.size w w' := by
  go_enter Try.func16, Try.ntmps16
  go_wp2
  go_quiet (fail)
  go_wp2
  go_ret2
  exact ⟨rfl, below_drewN (below1 _ _) _⟩

end Go.Proofs.Ytgepflelaemmnaa
