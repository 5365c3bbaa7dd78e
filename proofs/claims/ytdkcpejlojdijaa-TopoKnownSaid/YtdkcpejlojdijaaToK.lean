/-
  Walks: slices.Grow of nothing, at numbers and at needs.
-/
import Derived.Test.YtdkcpejlojdijaaToJ
import Derived.Lib.AppendZerosOnto
import Derived.Lib.SliceRun
import Derived.Lib.Walk
namespace Go.Proofs.Ytdkcpejlojdijaa
open Go.RowKit

set_option maxRecDepth 100000 in
set_option maxHeartbeats 2000000 in
theorem grow_int (n : Nat) (hn : n ≤ 100000) (w : World) : Calls Try.prog 32 #[.slice none 0 0, .int .i64 (n : Int)] w fun e w' => ∃ v, e = .returned v ∧ w'.ownsRow w.heap.size 3 1 v 0 [] ∧ Below w.heap.size w w' := by
  have h1 : ¬ ((n : Int) < 0) := by omega
  have h2 : wrap64 (n : Int) = (n : Int) := by unfold wrap64; omega
  by_cases h0 : n = 0
  · subst h0
    go_enter Try.func32, Try.ntmps32
    go_wp2_with fail
    go_ret
    exact ⟨_, rfl, World.ownsRow_nil _ _ _ _, Below.refl _ _⟩
  · have h4 : (n : Int) > 0 := by omega
    have h5 : (0 : Int) < n := by omega
    obtain ⟨i0, hi, hz0, hz1, hz2⟩ := info_parts info_int
    have hrz : ∀ ty, (Builtin.append_ #[22, 3] ty #[.slice none 0 0, .int .i64 (n : Int)]).run Try.prog w = .ok (.slice (some ⟨w.heap.size, 0, none⟩) (0 + n) (grownCap w (0 + n) 0 3)) (w.drew.alloc (.cells (([] : List Value).toArray ++ Builtin.zeroCells (.int .i64 0 : Value).cells n ++ Builtin.zeroCells (.int .i64 0 : Value).cells (grownCap w (0 + n) 0 3 - (0 + n))) 3)) := fun ty =>
      Lib.run_append_grow_zeros w 22 3 ty 3 i0 (.int .i64 0) .i64 .i64 Try.underlying22 Try.underlying3 hi hz0 none 0 0 [] (run_firstCells_none _ _ _ _ _) n (by omega) (by rw [hz1]; decide) (by omega) (by omega) (by rw [hz2]; omega) (growslice_fits (by omega) (by rw [hz2]; omega))
    have hge := grownCap_ge w (0 + n) 0 3
    have hcm := grownCap_le_maxLen w (0 + n) 0 3 (by unfold maxLen; omega)
    obtain ⟨G, hG⟩ : ∃ G, G = grownCap w (0 + n) 0 3 := ⟨_, rfl⟩
    rw [← hG] at hrz hge hcm
    rw [Nat.zero_add] at hrz hge
    obtain ⟨Z, hZ⟩ : ∃ Z, Z = ([] : List Value).toArray ++ Builtin.zeroCells (.int .i64 0 : Value).cells n ++ Builtin.zeroCells (.int .i64 0 : Value).cells (G - n) := ⟨_, rfl⟩
    rw [← hZ] at hrz
    have hs : Z.size = G * 1 := by
      rw [hZ, Array.size_append, Array.size_append, size_zeroCells, size_zeroCells]
      show 0 + n * 1 + (G - n) * 1 = G * 1
      omega
    have hG63 : G ≤ 9223372036854775807 := by unfold maxLen at hcm; exact hcm
    have g1 : (0 : Int) ≤ G := by omega
    have HE : Hid ((w.drew.alloc (.cells Z 3)).ownsRow w.heap.size 3 1 (.slice (some ⟨w.heap.size, 0, none⟩) 0 G) 0 [] ∧ Below w.heap.size w (w.drew.alloc (.cells Z 3))) := Lib.hid ⟨⟨rfl, .inr ⟨w.heap.size, G, Z, rfl, Nat.le_refl _, alloc1 w.drew _ (Below.refl _ _), Nat.zero_le _, hcm, hs, by simp⟩⟩, (Below.refl _ w).drew.alloc (Nat.le_refl _) _⟩
    clear hi hz0 hz1 hz2 hG hZ hs hcm h0
    go_enter Try.func32, Try.ntmps32
    go_wp2_with (at_builtin; refine Lib.wpList_append_run _ rfl _ _ _ _ rfl _ _ rfl rfl _ _ (hrz _) ?_)
    go_ret
    exact ⟨_, rfl, HE.out.1, HE.out.2⟩

set_option maxRecDepth 100000 in
set_option maxHeartbeats 2000000 in
theorem grow_nd (n : Nat) (hn : n ≤ 100000) (w : World) : Calls Try.prog 33 #[.slice none 0 0, .int .i64 (n : Int)] w fun e w' => ∃ v, e = .returned v ∧ w'.ownsRow w.heap.size 32 2 v 0 [] ∧ Below w.heap.size w w' := by
  have h1 : ¬ ((n : Int) < 0) := by omega
  have h2 : wrap64 (n : Int) = (n : Int) := by unfold wrap64; omega
  by_cases h0 : n = 0
  · subst h0
    go_enter Try.func33, Try.ntmps33
    go_wp2_with fail
    go_ret
    exact ⟨_, rfl, World.ownsRow_nil _ _ _ _, Below.refl _ _⟩
  · have h4 : (n : Int) > 0 := by omega
    have h5 : (0 : Int) < n := by omega
    obtain ⟨i0, hi, hz0, hz1, hz2⟩ := info_parts info_nd
    have hrz : ∀ ty, (Builtin.append_ #[23, 3] ty #[.slice none 0 0, .int .i64 (n : Int)]).run Try.prog w = .ok (.slice (some ⟨w.heap.size, 0, none⟩) (0 + n) (grownCap w (0 + n) 0 32)) (w.drew.alloc (.cells (([] : List Value).toArray ++ Builtin.zeroCells (.agg #[.int .i64 0, .bool false] : Value).cells n ++ Builtin.zeroCells (.agg #[.int .i64 0, .bool false] : Value).cells (grownCap w (0 + n) 0 32 - (0 + n))) 32)) := fun ty =>
      Lib.run_append_grow_zeros w 23 3 ty 32 i0 (.agg #[.int .i64 0, .bool false]) .i64 .i64 Try.underlying23 Try.underlying3 hi hz0 none 0 0 [] (run_firstCells_none _ _ _ _ _) n (by omega) (by rw [hz1]; decide) (by omega) (by omega) (by rw [hz2]; omega) (growslice_fits (by omega) (by rw [hz2]; omega))
    have hge := grownCap_ge w (0 + n) 0 32
    have hcm := grownCap_le_maxLen w (0 + n) 0 32 (by unfold maxLen; omega)
    obtain ⟨G, hG⟩ : ∃ G, G = grownCap w (0 + n) 0 32 := ⟨_, rfl⟩
    rw [← hG] at hrz hge hcm
    rw [Nat.zero_add] at hrz hge
    obtain ⟨Z, hZ⟩ : ∃ Z, Z = ([] : List Value).toArray ++ Builtin.zeroCells (.agg #[.int .i64 0, .bool false] : Value).cells n ++ Builtin.zeroCells (.agg #[.int .i64 0, .bool false] : Value).cells (G - n) := ⟨_, rfl⟩
    rw [← hZ] at hrz
    have hs : Z.size = G * 2 := by
      rw [hZ, Array.size_append, Array.size_append, size_zeroCells, size_zeroCells]
      show 0 + n * 2 + (G - n) * 2 = G * 2
      omega
    have hG63 : G ≤ 9223372036854775807 := by unfold maxLen at hcm; exact hcm
    have g1 : (0 : Int) ≤ G := by omega
    have HE : Hid ((w.drew.alloc (.cells Z 32)).ownsRow w.heap.size 32 2 (.slice (some ⟨w.heap.size, 0, none⟩) 0 G) 0 [] ∧ Below w.heap.size w (w.drew.alloc (.cells Z 32))) := Lib.hid ⟨⟨rfl, .inr ⟨w.heap.size, G, Z, rfl, Nat.le_refl _, alloc1 w.drew _ (Below.refl _ _), Nat.zero_le _, hcm, hs, by simp⟩⟩, (Below.refl _ w).drew.alloc (Nat.le_refl _) _⟩
    clear hi hz0 hz1 hz2 hG hZ hs hcm h0
    go_enter Try.func33, Try.ntmps33
    go_wp2_with (at_builtin; refine Lib.wpList_append_run _ rfl _ _ _ _ rfl _ _ rfl rfl _ _ (hrz _) ?_)
    go_ret
    exact ⟨_, rfl, HE.out.1, HE.out.2⟩
end Go.Proofs.Ytdkcpejlojdijaa
