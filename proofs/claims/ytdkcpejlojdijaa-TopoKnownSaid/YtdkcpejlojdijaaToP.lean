/-
  Walks: topo.twice of numbers: its closure.
-/
import Derived.Test.YtdkcpejlojdijaaToO
namespace Go.Proofs.Ytdkcpejlojdijaa
open Go.RowKit
attribute [local irreducible] ixF
theorem key_int (y : Int) (w : World) : Calls Try.prog 39 #[.int .i64 y] w fun e w' => e = .returned (.int .i64 y) ∧ w = w' := by
  go_enter Try.func39, Try.ntmps39
  go_wp2_with fail
  go_ret
  exact ⟨rfl, rfl⟩
theorem twice1_is (b : Bool) (gk gx : Nat) (x y : Int) (tk tx : TypeId) (f1 f2 : Nat × Nat) (w : World) (hb : decide (y = x) = b) (hk : w.heap[gk]? = some (.cells #[.func (.func 39) #[] #[]] tk f1)) (hx : w.heap[gx]? = some (.cells #[.int .i64 x] tx f2)) :
    Calls Try.prog 54 #[.int .i64 y, .pointer (some ⟨gk, 0, none⟩), .pointer (some ⟨gx, 0, none⟩)] w fun e w' => e = .returned (.bool b) ∧ Below w.heap.size w w' := by
  have HK := Lib.hid hk
  have HX := Lib.hid hx
  have hbe : (x == y) = b := by
    rw [← hb]
    by_cases h : y = x
    · subst h; simp
    · rw [decide_eq_false h]; simpa using fun q => h q.symm
  clear hk hx hb
  have k1 : ∀ w', Below w.heap.size w w' → Calls Try.prog 39 #[.int .i64 x] w' fun e w'' => e = .returned (.int .i64 x) ∧ Below w.heap.size w w'' :=
    fun w' hw' => (key_int x w').mono (fun e w9 ⟨h1, h2⟩ => ⟨h1, h2 ▸ hw'⟩)
  have k2 : ∀ w', Below w.heap.size w w' → Calls Try.prog 39 #[.int .i64 y] w' fun e w'' => e = .returned (.int .i64 y) ∧ Below w.heap.size w w'' :=
    fun w' hw' => (key_int y w').mono (fun e w9 ⟨h1, h2⟩ => ⟨h1, h2 ▸ hw'⟩)
  go_enter Try.func54, Try.ntmps54
  go_wp2_with fail
  refine wp_region_calm (by kernel_rfl) (by kernel_rfl) ?_
  repeat
    (with_reducible apply wpQuiet_step
     intro K hK
     go_simp
     first
       | (refine hK _ ?_; clear hK K)
       | (apply Exists.intro
          refine ⟨fun w' hw' => ?_, hK _ ?_⟩
          ·
            (first
             | with_reducible exact k1 _ hw'
             | with_reducible exact k2 _ hw'
             | (have e0 := blk_cell (blk_keep hw' HK.out) 0 _ rfl
                have e1 := blk_cell (blk_keep hw' HX.out) 0 _ rfl
                go_simp
                first | done | with_reducible exact rfl | with_reducible exact ⟨rfl, rfl⟩ | with_reducible exact k1 _ hw' | with_reducible exact k2 _ hw'))
          clear hK K))
  refine wpQuiet_nil ?_
  intro w7 hw7
  go_wp2_with fail
  go_ret
  exact ⟨rfl, hw7⟩
end Go.Proofs.Ytdkcpejlojdijaa
