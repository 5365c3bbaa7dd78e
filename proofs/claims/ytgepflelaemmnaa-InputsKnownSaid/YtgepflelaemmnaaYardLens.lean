/-
  The yard of the kit, told by the lengths of its rows.
-/
import Derived.Test.YtgepflelaemmnaaProg
import Derived.Test.YtgepflelaemmnaaBase
import Derived.Laws.ResultCell
namespace Go.Proofs.Ytgepflelaemmnaa
open Go.RowKit
set_option maxRecDepth 100000 in
set_option maxHeartbeats 4000000 in
theorem yard_lens (w : World) : Calls Try.prog 19 #[] w fun e w' => (∃ a0 c0 a1 c1 a2 c2 a3 c3, e = .returned (.agg #[.slice a0 6 c0, .slice a1 2 c1, .slice a2 3 c2, .slice a3 5 c3])) ∧ Below w.heap.size w w' := by
  go_enter Try.func19, Try.ntmps19
  go_wp2
  refine bodyPost_ret (v := .agg #[.slice (some ⟨w.heap.size + 1, 0, none⟩) 6 6, .slice (some ⟨w.heap.size + 1 + 1, 0, none⟩) 2 2, .slice (some ⟨w.heap.size + 1 + 1 + 1, 0, none⟩) 3 3, .slice (some ⟨_, 0, none⟩) 5 5]) (by simp [results, Try.results19, go_sem]; rfl) rfl ⟨⟨_, _, _, _, _, _, _, _, rfl⟩, ?_⟩
  repeat (first | exact Below.refl _ _ | refine Below.alloc ?_ (by first | (simp only [World.size_alloc]; omega) | omega) _)
end Go.Proofs.Ytgepflelaemmnaa
