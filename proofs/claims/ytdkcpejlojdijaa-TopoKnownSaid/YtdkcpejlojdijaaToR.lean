/-
  Walks: topo.twice of needs: its closure.
-/
import Derived.Test.YtdkcpejlojdijaaToQ
namespace Go.Proofs.Ytdkcpejlojdijaa
open Go.RowKit
attribute [local irreducible] ixF
theorem key_nd (y : Int × Bool) (w : World) : Calls Try.prog 42 #[.agg #[.int .i64 y.1, .bool y.2]] w fun e w' => e = .returned (.int .i64 y.1) ∧ Below w.heap.size w w' := by
  go_enter Try.func42, Try.ntmps42
  go_wp2_with fail
  go_ret
  exact ⟨rfl, below1 _ _⟩
theorem twice1n_is (b : Bool) (gk gx : Nat) (x y : Int × Bool) (tk tx : TypeId) (f1 f2 : Nat × Nat) (w : World) (hb : decide (y.1 = x.1) = b) (hk : w.heap[gk]? = some (.cells #[.func (.func 42) #[] #[]] tk f1)) (hx : w.heap[gx]? = some (.cells #[.int .i64 x.1, .bool x.2] tx f2)) :
    Calls Try.prog 57 #[.agg #[.int .i64 y.1, .bool y.2], .pointer (some ⟨gk, 0, none⟩), .pointer (some ⟨gx, 0, none⟩)] w fun e w' => e = .returned (.bool b) ∧ Below w.heap.size w w' := by
  have HK := Lib.hid hk
  have HX := Lib.hid hx
  have hbe : (x.1 == y.1) = b := by
    rw [← hb]
    by_cases h : y.1 = x.1
    · rw [h]; simp
    · rw [decide_eq_false h]; simpa using fun q => h q.symm
  clear hk hx hb
  go_enter Try.func57, Try.ntmps57
  go_upto_region 1 with fail
  have hbY := below1 w (.cells #[.int .i64 y.1, .bool y.2] 32)
  have hgY := alloc1 w (.cells #[.int .i64 y.1, .bool y.2] 32) (Below.refl _ _)
  obtain ⟨V, hV⟩ : ∃ V, V = w.alloc (.cells #[.int .i64 y.1, .bool y.2] 32) := ⟨_, rfl⟩
  obtain ⟨gy, hgy⟩ : ∃ g, g = w.heap.size := ⟨_, rfl⟩
  rw [← hV] at hbY hgY ⊢
  rw [← hgy] at hgY ⊢
  have HY := Lib.hid hgY
  have HBY := Lib.hid hbY
  have HK := Lib.hid (blk_keep hbY HK.out)
  have HX := Lib.hid (blk_keep hbY HX.out)
  have k1 : ∀ w', Below V.heap.size V w' → Calls Try.prog 42 #[.agg #[.int .i64 x.1, .bool x.2]] w' fun e w'' => e = .returned (.int .i64 x.1) ∧ Below V.heap.size V w'' :=
    fun w' hw' => (key_nd x w').mono (fun e w9 ⟨h1, h2⟩ => ⟨h1, below_on hw' h2⟩)
  have k2 : ∀ w', Below V.heap.size V w' → Calls Try.prog 42 #[.agg #[.int .i64 y.1, .bool y.2]] w' fun e w'' => e = .returned (.int .i64 y.1) ∧ Below V.heap.size V w'' :=
    fun w' hw' => (key_nd y w').mono (fun e w9 ⟨h1, h2⟩ => ⟨h1, below_on hw' h2⟩)
  clear hV hgy hbY hgY
  refine wp_region_calm (by kernel_rfl) (by kernel_rfl) ?_
  repeat
    (with_reducible apply wpQuiet_step
     intro K hK
     go_simp
     first
       | (refine hK _ ?_; clear hK K)
       | (apply Exists.intro
          refine ⟨fun w' hw' => ?_, hK _ ?_⟩
          ·
            (first
             | with_reducible exact k1 _ hw'
             | with_reducible exact k2 _ hw'
             | (have e0 := blk_cell (blk_keep hw' HK.out) 0 _ rfl
                have e1 := blk_cell (blk_keep hw' HX.out) 0 _ rfl
                have e2 := blk_cell (blk_keep hw' HX.out) 1 _ rfl
                have e3 := blk_cell (blk_keep hw' HY.out) 0 _ rfl
                have e4 := blk_cell (blk_keep hw' HY.out) 1 _ rfl
                go_simp
                first | done | with_reducible exact rfl | with_reducible exact ⟨rfl, rfl⟩ | with_reducible exact k1 _ hw' | with_reducible exact k2 _ hw'))
          clear hK K))
  refine wpQuiet_nil ?_
  intro w7 hw7
  go_wp2_with fail
  go_ret
  exact ⟨rfl, below_on HBY.out hw7⟩
end Go.Proofs.Ytdkcpejlojdijaa
