/-
  The walk of 'works' of chapter 9's statements.
-/
import Derived.Test.YtgepflelaemmnaaInRefRight
import Derived.Test.YtgepflelaemmnaaYardLens
import Derived.Test.YtgepflelaemmnaaBase2
namespace Go.Proofs.Ytgepflelaemmnaa
open Go.RowKit

theorem cmds_nil (w : World) (a : Option Addr) : CmdsAt w a [] := ⟨by simp, .inl rfl⟩
theorem cmds_lit {w : World} {g : Nat} {t : TypeId} {fr : Nat × Nat} {C : Array Value} (l : List (Nat × Int)) (hl : ∀ c ∈ l, c.1 < 256 ∧ -9223372036854775808 ≤ c.2 ∧ c.2 ≤ 9223372036854775807) (hC : C.toList = cmdCells l) (hg : w.heap[g]? = some (.cells C t fr)) : CmdsAt w (some ⟨g, 0, none⟩) l := by
  refine ⟨hl, .inr ⟨g, 0, rfl, fun i c hi => ?_⟩⟩
  obtain ⟨g1, g2⟩ := cmdCells_get l i c hi
  simp only [World.cell?, hg, Nat.zero_add, ← Array.getElem?_toList, hC]
  exact ⟨by simpa using g1, by simpa using g2⟩
theorem heap_new (w : World) (o : Obj) : (w.alloc o).heap[w.heap.size]? = some o := by
  show (w.heap.push o)[w.heap.size]? = some o
  simp
theorem both_same (l : List (Nat × Int)) : both l l = l := if_pos rfl
theorem both_nil_left (l : List (Nat × Int)) : both [] l = [] := by unfold both; split <;> simp_all

set_option maxRecDepth 100000 in
set_option maxHeartbeats 1000000 in
theorem works_any (w : World) : Calls Try.prog 9 #[] w fun e w' => e = .returned (.bool true) ∧ Below w.heap.size w w' := by
  go_enter Try.func9, Try.ntmps9
  go_wp2_with fail
  refine (merge_any 1 3 0 2 1 0 none none [] [] 0 0 0 0 _ rfl rfl (by omega) (by omega) (cmds_nil _ _) (cmds_nil _ _) (fun _ => rfl) (by omega) (by omega) (by omega) (by omega) (by omega) (by omega)).mono ?_
  rintro e w1 ⟨a1, c1, rfl, hc1, hown1, hb1⟩
  rw [both_same, show (1 ||| 2 : Nat) = 3 from rfl, show (3 &&& 1 : Nat) = 1 from rfl, show (0 &&& 0 : Nat) = 0 from rfl] at *
  go_wp2_with fail
  refine (merge_any 0 0 0 0 0 0 _ _ [(1, 0)] [(1, 0), (2, 1)] 1 2 1 2 _ rfl rfl (by omega) (by omega) (cmds_lit [(1, 0)] (by decide) rfl (alloc3' _ _ _ _).2.1) (cmds_lit [(1, 0), (2, 1)] (by decide) rfl (alloc3' _ _ _ _).2.2) (fun h => by cases h) (by omega) (by omega) (by omega) (by omega) (by omega) (by omega)).mono ?_
  rintro e w2 ⟨a2, c2, rfl, hc2, hown2, hb2⟩
  have kA := (alloc3 _ _ _ _ hb2).1
  have hb2 := below_on hb1 (below_on (below3 _ _ _ _) hb2)
  rw [show both [(1, 0)] [(1, 0), (2, 1)] = [] from if_neg (by decide), show (0 ||| 0 : Nat) = 0 from rfl, show (0 &&& 0 : Nat) = 0 from rfl] at *
  have xA : w1.heap.size < w2.heap.size := World.block_lt_of_cell? _ _ (blk_cell kA 0 _ rfl)
  clear hown2 hb1
  go_wp2_with fail
  refine (sides_any 0 3 2 none 0 0 _).mono ?_
  rintro e w3 ⟨rfl, hb3⟩
  have kB := alloc1 _ _ hb3
  have kA := blk_keep (below_on (below1 _ _) hb3) kA
  have hb3 := below_on hb2 (below_on (below1 _ _) hb3)
  rw [show bits BinOp.andNot IntKind.u32 ((3 : Nat) : Int) ((2 : Nat) : Int) = 1 by decide +kernel, show bits BinOp.andNot IntKind.u32 ((2 : Nat) : Int) ((3 : Nat) : Int) = 0 by decide +kernel]
  have eA0 := blk_cell kA 0 _ rfl
  have eA1 := blk_cell kA 1 _ rfl
  have eA2 := blk_cell kA 2 _ rfl
  have eA3 := blk_cell kA 3 _ rfl
  have eB3 := blk_cell kB 3 _ rfl
  clear hb2 xA hc2
  go_wp2_with fail
  refine (yard_lens _).mono ?_
  rintro e w4 ⟨⟨q0, p0, q1, p1, q2, p2, q3, p3, rfl⟩, hb4⟩
  go_wp2_with fail
  refine (right_any 6 2 3 5 q0 q1 q2 q3 p0 p1 p2 p3 32 0 0 none [] 0 0 _ rfl (by omega) (by omega) (by omega) (by omega) (cmds_nil _ _) (by omega) (by omega)).mono ?_
  rintro e w5 ⟨rfl, hb5⟩
  rw [show inRight (min 6 64) (min 2 32) (min 5 64) 32 0 0 [] = true by decide +kernel]
  go_wp2_with fail
  refine (yard_lens _).mono ?_
  rintro e w6 ⟨⟨r0, s0, r1, s1, r2, s2, r3, s3, rfl⟩, hb6⟩
  go_wp2_with fail
  refine (right_any 6 2 3 5 r0 r1 r2 r3 s0 s1 s2 s3 64 0 0 none [] 0 0 _ rfl (by omega) (by omega) (by omega) (by omega) (cmds_nil _ _) (by omega) (by omega)).mono ?_
  rintro e w7 ⟨rfl, hb7⟩
  rw [show inRight (min 6 64) (min 2 32) (min 5 64) 64 0 0 [] = false by decide +kernel]
  have hb8 := below_on (below_on hb4 hb5) (below_on hb6 hb7)
  have kA := blk_keep hb8 kA
  have eA0 := blk_cell kA 0 _ rfl
  have eA1 := blk_cell kA 1 _ rfl
  have eA2 := blk_cell kA 2 _ rfl
  have eA3 := blk_cell kA 3 _ rfl
  have hb9 := below_on hb3 hb8
  clear eB3 hb3 hb4 hb5 hb6 hb7 hb8
  go_wp2_with fail
  refine (same_any 3 1 0 3 1 0 a1 a1 [] [] 0 0 c1 c1 _ rfl rfl (by omega) (by omega) (cmds_nil _ _) (cmds_nil _ _)).mono ?_
  rintro e w8 ⟨rfl, hb10⟩
  rw [show decide ((3 : Nat) = 3 ∧ (1 : Nat) = 1 ∧ (0 : Nat) = 0 ∧ ([] : List (Nat × Int)) = []) = true by decide]
  go_wp2_with fail
  go_ret
  exact ⟨rfl, below_on hb9 hb10⟩
end Go.Proofs.Ytgepflelaemmnaa
