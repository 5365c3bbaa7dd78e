/-
  A region that draws its order, of operations and callees that read, and make new memory at most: one walk in the order of the text serves every order. The class of worlds is: below the heap's old size all is as it was.
-/
import Derived.Test.YtdkcpejlojdijaaBase
import Derived.Deep.QuietTactic
import Derived.BigQuiet
namespace Go.Proofs.Ytdkcpejlojdijaa
open Go.RowKit

theorem wp_region_calm {P : Program} {id : Nat} {Q : Exit → Act → World → Prop} {a : Act} {w : World} {l : List Oper} (hm : P.follows .mixedOrders = true) (hB : Region.lexB .any l.toArray = true)
    (h : wpQuiet P l.toArray (fun w' => Below w.heap.size w w') (fun a' => ∀ w', Below w.heap.size w w' → Q .normal a' w') l a) : (Code.region id l.toArray true).wp P Q a w :=
  wp_region_quiet (C := fun w' => Below w.heap.size w w') hm hB (Below.refl _ w).drew (by simpa using h)

end Go.Proofs.Ytdkcpejlojdijaa
