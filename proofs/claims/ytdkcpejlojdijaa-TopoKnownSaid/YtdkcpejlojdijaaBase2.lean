/-
  More small facts on new blocks; no program in sight.
-/
import Derived.Test.YtdkcpejlojdijaaBase
namespace Go.Proofs.Ytdkcpejlojdijaa
open Go.RowKit
theorem alloc3 (w : World) (A B C : Obj) {w1 : World} (hb : Below (((w.alloc A).alloc B).alloc C).heap.size (((w.alloc A).alloc B).alloc C) w1) :
    w1.heap[w.heap.size]? = some A ∧ w1.heap[w.heap.size + 1]? = some B ∧ w1.heap[w.heap.size + 1 + 1]? = some C := by
  have h : ∀ k, k < w.heap.size + 3 → w1.heap[k]? = (((w.heap.push A).push B).push C)[k]? := fun k hk => hb.block k (by simp; omega)
  refine ⟨?_, ?_, ?_⟩
  · rw [h _ (by omega)]; simp only [Array.getElem?_push, Array.size_push]; rw [if_neg (by omega), if_neg (by omega), if_pos trivial]
  · rw [h _ (by omega)]; simp only [Array.getElem?_push, Array.size_push]; rw [if_neg (by omega), if_pos trivial]
  · rw [h _ (by omega)]; simp only [Array.getElem?_push, Array.size_push]; rw [if_pos trivial]
theorem below3 (w : World) (A B C : Obj) : Below w.heap.size w (((w.alloc A).alloc B).alloc C) :=
  (((Below.refl _ _).alloc (Nat.le_refl _) _).alloc (by simp) _).alloc (by simp; omega) _
theorem alloc1 (w : World) (A : Obj) {w1 : World} (hb : Below (w.alloc A).heap.size (w.alloc A) w1) : w1.heap[w.heap.size]? = some A := by
  rw [hb.block w.heap.size (by simp)]
  show (w.heap.push A)[w.heap.size]? = some A
  simp
theorem alloc3' (w : World) (A B C : Obj) : (((w.alloc A).alloc B).alloc C).heap[w.heap.size]? = some A ∧ (((w.alloc A).alloc B).alloc C).heap[w.heap.size + 1]? = some B ∧ (((w.alloc A).alloc B).alloc C).heap[w.heap.size + 1 + 1]? = some C :=
  alloc3 w A B C (Below.refl _ _)
theorem alloc2' (w : World) (A B : Obj) : ((w.alloc A).alloc B).heap[w.heap.size]? = some A ∧ ((w.alloc A).alloc B).heap[w.heap.size + 1]? = some B := by
  constructor
  · show ((w.heap.push A).push B)[w.heap.size]? = some A
    simp [Array.getElem?_push]
  · show ((w.heap.push A).push B)[w.heap.size + 1]? = some B
    rw [Array.getElem?_push, if_pos (by simp)]
end Go.Proofs.Ytdkcpejlojdijaa
