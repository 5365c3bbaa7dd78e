/-
  The walk of the statement AgreeNone of chapter 20: a side that is not there.
-/
import Derived.Test.YtbbacmlcimgjbaaAgWorks
import Derived.Test.YtbbacmlcimgjbaaAgRead
namespace Go.Proofs.Ytbbacmlcimgjbaa
open Go.RowKit
attribute [local irreducible] shortB fewB In.ok InAt MyIn LongAt In.same both cmdCells SideAt OptAt RdAt RSideAt CellsAt In.merge


set_option maxRecDepth 100000 in
set_option maxHeartbeats 4000000 in
theorem none_zero (ch cy : Int) (I : In) (a : Option Addr) (cap : Nat) (w : World) :
    Calls Try.prog 5 #[.int .i64 0, .agg #[.int .i64 ch, .int .i64 cy, .int .u64 (I.o : Int), .int .u32 (I.n : Int), .int .u32 (I.r : Int), .slice a I.c.length cap]] w fun e w' => e = .returned (.bool true) ∧ Below w.heap.size w w' := by
  have kq := heap_new1 w (Obj.cells #[.int .i64 ch, .int .i64 cy, .int .u64 (I.o : Int), .int .u32 (I.n : Int), .int .u32 (I.r : Int), .slice a I.c.length cap] 35)
  have hb0 := below1 w (Obj.cells #[.int .i64 ch, .int .i64 cy, .int .u64 (I.o : Int), .int .u32 (I.n : Int), .int .u32 (I.r : Int), .slice a I.c.length cap] 35)
  obtain ⟨l, hl⟩ : ∃ l, l = I.c.length := ⟨_, rfl⟩
  rw [← hl] at kq hb0 ⊢
  have HL := Lib.hid hl
  clear hl
  go_enter Try.func5, Try.ntmps5
  go_wp2_with fail
  rw [HL.out]
  refine (nbegin cy I a I.c.length cap _).mono ?_
  rintro e w1 ⟨rfl, hb1⟩
  rw [← HL.out] at *
  have kq1 := blk_keep hb1 kq
  have hb := below_on hb0 hb1
  clear kq hb0 hb1
  go_wp2_with fail
  refine name_calls ?_
  intro W2 hW2
  have kb : W2.heap[w1.heap.size]? = some (.cells #[.int .i64 0, .int .i64 0, .int .u64 0, .int .u32 0, .int .u32 0, .slice none 0 0] 35 (0, 0)) := by rw [hW2]; exact heap_new1 _ _
  have hb2 : Below w1.heap.size w1 W2 := by rw [hW2]; exact below1 _ _
  have kq2 := blk_keep hb2 kq1
  have hb := below_on hb hb2
  obtain ⟨zb, hzb⟩ : ∃ zb, zb = w1.heap.size := ⟨_, rfl⟩
  rw [← hzb] at kb ⊢
  clear hzb hW2 hb2 kq1
  refine (nmerged W2).mono ?_
  rintro e w3 ⟨rfl, hb3⟩
  have kb3 := blk_keep hb3 kb
  have kq3 := blk_keep hb3 kq2
  have hb := below_on hb hb3
  clear hb3 kb kq2
  go_wp2_with fail
  refine name_calls ?_
  intro W4 hW4
  have km : W4.heap[w3.heap.size]? = some (.cells #[.int .u64 0, .int .u32 0, .int .u32 0, .slice none 0 0] 33 (0, 0)) := by rw [hW4]; exact heap_new1 _ _
  have hb4 : Below w3.heap.size w3 W4 := by rw [hW4]; exact below1 _ _
  have kq4 := blk_keep hb4 kq3
  have kb4 := blk_keep hb4 kb3
  have hb := below_on hb hb4
  obtain ⟨zm, hzm⟩ : ∃ zm, zm = w3.heap.size := ⟨_, rfl⟩
  rw [← hzm] at km ⊢
  clear hzm hW4 hb4 kq3 kb3
  refine (new_is 0 _ (.inl rfl)).mono ?_
  rintro e w5 ⟨rfl, _, hb5⟩
  have kb5 := blk_keep hb5 kb4
  have kq5 := blk_keep hb5 kq4
  have km5 := blk_keep hb5 km
  have hb := below_on hb hb5
  have q0 := blk_cell kq5 0 _ rfl
  have q1 := blk_cell kq5 1 _ rfl
  have q2 := blk_cell kq5 2 _ rfl
  have q3 := blk_cell kq5 3 _ rfl
  have q4 := blk_cell kq5 4 _ rfl
  have q5 := blk_cell kq5 5 _ rfl
  have b0 := blk_cell kb5 0 _ rfl
  have b1 := blk_cell kb5 1 _ rfl
  have m0 := blk_cell km5 0 _ rfl
  clear hb5 kb4 kq4 km
  go_wp2_with fail
  refine (nhear _ _).mono ?_
  rintro e w6 ⟨rfl, rfl⟩
  go_wp2_with fail
  refine (cycle_nil _).mono ?_
  rintro e w7 ⟨rfl, rfl⟩
  go_wp2_with fail
  refine (works_any _).mono ?_
  rintro e w8 ⟨rfl, hb8⟩
  go_wp2_with fail
  go_ret
  exact ⟨rfl, below_on hb hb8⟩

set_option maxRecDepth 100000 in
set_option maxHeartbeats 4000000 in
theorem none_one (ch cy : Int) (I : In) (a : Option Addr) (cap : Nat) (w : World) :
    Calls Try.prog 5 #[.int .i64 1, .agg #[.int .i64 ch, .int .i64 cy, .int .u64 (I.o : Int), .int .u32 (I.n : Int), .int .u32 (I.r : Int), .slice a I.c.length cap]] w fun e w' => e = .returned (.bool true) ∧ Below w.heap.size w w' := by
  have kq := heap_new1 w (Obj.cells #[.int .i64 ch, .int .i64 cy, .int .u64 (I.o : Int), .int .u32 (I.n : Int), .int .u32 (I.r : Int), .slice a I.c.length cap] 35)
  have hb0 := below1 w (Obj.cells #[.int .i64 ch, .int .i64 cy, .int .u64 (I.o : Int), .int .u32 (I.n : Int), .int .u32 (I.r : Int), .slice a I.c.length cap] 35)
  obtain ⟨l, hl⟩ : ∃ l, l = I.c.length := ⟨_, rfl⟩
  rw [← hl] at kq hb0 ⊢
  have HL := Lib.hid hl
  clear hl
  go_enter Try.func5, Try.ntmps5
  go_wp2_with fail
  rw [HL.out]
  refine (nbegin cy I a I.c.length cap _).mono ?_
  rintro e w1 ⟨rfl, hb1⟩
  rw [← HL.out] at *
  have kq1 := blk_keep hb1 kq
  have hb := below_on hb0 hb1
  clear kq hb0 hb1
  go_wp2_with fail
  refine name_calls ?_
  intro W2 hW2
  have kb : W2.heap[w1.heap.size]? = some (.cells #[.int .i64 0, .int .i64 0, .int .u64 0, .int .u32 0, .int .u32 0, .slice none 0 0] 35 (0, 0)) := by rw [hW2]; exact heap_new1 _ _
  have hb2 : Below w1.heap.size w1 W2 := by rw [hW2]; exact below1 _ _
  have kq2 := blk_keep hb2 kq1
  have hb := below_on hb hb2
  obtain ⟨zb, hzb⟩ : ∃ zb, zb = w1.heap.size := ⟨_, rfl⟩
  rw [← hzb] at kb ⊢
  clear hzb hW2 hb2 kq1
  refine (nmerged W2).mono ?_
  rintro e w3 ⟨rfl, hb3⟩
  have kb3 := blk_keep hb3 kb
  have kq3 := blk_keep hb3 kq2
  have hb := below_on hb hb3
  clear hb3 kb kq2
  go_wp2_with fail
  refine name_calls ?_
  intro W4 hW4
  have km : W4.heap[w3.heap.size]? = some (.cells #[.int .u64 0, .int .u32 0, .int .u32 0, .slice none 0 0] 33 (0, 0)) := by rw [hW4]; exact heap_new1 _ _
  have hb4 : Below w3.heap.size w3 W4 := by rw [hW4]; exact below1 _ _
  have kq4 := blk_keep hb4 kq3
  have kb4 := blk_keep hb4 kb3
  have hb := below_on hb hb4
  obtain ⟨zm, hzm⟩ : ∃ zm, zm = w3.heap.size := ⟨_, rfl⟩
  rw [← hzm] at km ⊢
  clear hzm hW4 hb4 kq3 kb3
  refine (new_is 1 _ (.inr rfl)).mono ?_
  rintro e w5 ⟨rfl, _, hb5⟩
  have kb5 := blk_keep hb5 kb4
  have kq5 := blk_keep hb5 kq4
  have km5 := blk_keep hb5 km
  have hb := below_on hb hb5
  have q0 := blk_cell kq5 0 _ rfl
  have q1 := blk_cell kq5 1 _ rfl
  have q2 := blk_cell kq5 2 _ rfl
  have q3 := blk_cell kq5 3 _ rfl
  have q4 := blk_cell kq5 4 _ rfl
  have q5 := blk_cell kq5 5 _ rfl
  have b0 := blk_cell kb5 0 _ rfl
  have b1 := blk_cell kb5 1 _ rfl
  have m0 := blk_cell km5 0 _ rfl
  clear hb5 kb4 kq4 km
  go_wp2_with fail
  refine (nhear _ _).mono ?_
  rintro e w6 ⟨rfl, rfl⟩
  go_wp2_with fail
  refine (cycle_nil _).mono ?_
  rintro e w7 ⟨rfl, rfl⟩
  go_wp2_with fail
  refine (works_any _).mono ?_
  rintro e w8 ⟨rfl, hb8⟩
  go_wp2_with fail
  go_ret
  exact ⟨rfl, below_on hb hb8⟩

set_option maxRecDepth 100000 in
set_option maxHeartbeats 4000000 in
theorem none_not (c : Int) (ch cy : Int) (I : In) (a : Option Addr) (cap : Nat) (w : World) (h0 : ¬ c = 0) (h1 : ¬ c = 1) :
    Calls Try.prog 5 #[.int .i64 c, .agg #[.int .i64 ch, .int .i64 cy, .int .u64 (I.o : Int), .int .u32 (I.n : Int), .int .u32 (I.r : Int), .slice a I.c.length cap]] w fun e w' => e = .returned (.bool true) ∧ Below w.heap.size w w' := by
  have kq := heap_new1 w (Obj.cells #[.int .i64 ch, .int .i64 cy, .int .u64 (I.o : Int), .int .u32 (I.n : Int), .int .u32 (I.r : Int), .slice a I.c.length cap] 35)
  have hb0 := below1 w (Obj.cells #[.int .i64 ch, .int .i64 cy, .int .u64 (I.o : Int), .int .u32 (I.n : Int), .int .u32 (I.r : Int), .slice a I.c.length cap] 35)
  have d0 : (c == 0) = false := by simpa using h0
  have d1 : (c == 1) = false := by simpa using h1
  obtain ⟨l, hl⟩ : ∃ l, l = I.c.length := ⟨_, rfl⟩
  rw [← hl] at kq hb0 ⊢
  have HL := Lib.hid hl
  clear hl
  go_enter Try.func5, Try.ntmps5
  go_wp2_with fail
  rw [HL.out]
  refine (nbegin cy I a I.c.length cap _).mono ?_
  rintro e w1 ⟨rfl, hb1⟩
  rw [← HL.out] at *
  have kq1 := blk_keep hb1 kq
  have hb := below_on hb0 hb1
  clear kq hb0 hb1
  go_wp2_with fail
  refine name_calls ?_
  intro W2 hW2
  have kb : W2.heap[w1.heap.size]? = some (.cells #[.int .i64 0, .int .i64 0, .int .u64 0, .int .u32 0, .int .u32 0, .slice none 0 0] 35 (0, 0)) := by rw [hW2]; exact heap_new1 _ _
  have hb2 : Below w1.heap.size w1 W2 := by rw [hW2]; exact below1 _ _
  have kq2 := blk_keep hb2 kq1
  have hb := below_on hb hb2
  obtain ⟨zb, hzb⟩ : ∃ zb, zb = w1.heap.size := ⟨_, rfl⟩
  rw [← hzb] at kb ⊢
  clear hzb hW2 hb2 kq1
  refine (nmerged W2).mono ?_
  rintro e w3 ⟨rfl, hb3⟩
  have kb3 := blk_keep hb3 kb
  have kq3 := blk_keep hb3 kq2
  have hb := below_on hb hb3
  clear hb3 kb kq2
  go_wp2_with fail
  refine name_calls ?_
  intro W4 hW4
  have km : W4.heap[w3.heap.size]? = some (.cells #[.int .u64 0, .int .u32 0, .int .u32 0, .slice none 0 0] 33 (0, 0)) := by rw [hW4]; exact heap_new1 _ _
  have hb4 : Below w3.heap.size w3 W4 := by rw [hW4]; exact below1 _ _
  have kq4 := blk_keep hb4 kq3
  have kb4 := blk_keep hb4 kb3
  have hb := below_on hb hb4
  obtain ⟨zm, hzm⟩ : ∃ zm, zm = w3.heap.size := ⟨_, rfl⟩
  rw [← hzm] at km ⊢
  clear hzm hW4 hb4 kq3 kb3
  refine (new_nil c _ h0 h1).mono ?_
  rintro e w5 ⟨rfl, rfl⟩
  have hb5 := Below.refl W4.heap.size W4
  have kb5 := blk_keep hb5 kb4
  have kq5 := blk_keep hb5 kq4
  have km5 := blk_keep hb5 km
  have hb := below_on hb hb5
  have q0 := blk_cell kq5 0 _ rfl
  have q1 := blk_cell kq5 1 _ rfl
  have q2 := blk_cell kq5 2 _ rfl
  have q3 := blk_cell kq5 3 _ rfl
  have q4 := blk_cell kq5 4 _ rfl
  have q5 := blk_cell kq5 5 _ rfl
  have b0 := blk_cell kb5 0 _ rfl
  have b1 := blk_cell kb5 1 _ rfl
  have m0 := blk_cell km5 0 _ rfl
  clear hb5 kb4 kq4 km
  go_wp2_with fail
  refine (nhear _ _).mono ?_
  rintro e w6 ⟨rfl, rfl⟩
  go_wp2_with fail
  refine (cycle_nil _).mono ?_
  rintro e w7 ⟨rfl, rfl⟩
  go_wp2_with fail
  refine (works_any _).mono ?_
  rintro e w8 ⟨rfl, hb8⟩
  go_wp2_with fail
  go_ret
  exact ⟨rfl, below_on hb hb8⟩

theorem none_any (c ch cy : Int) (I : In) (a : Option Addr) (cap : Nat) (w : World) :
    Calls Try.prog 5 #[.int .i64 c, .agg #[.int .i64 ch, .int .i64 cy, .int .u64 (I.o : Int), .int .u32 (I.n : Int), .int .u32 (I.r : Int), .slice a I.c.length cap]] w fun e w' => e = .returned (.bool true) ∧ Below w.heap.size w w' := by
  rcases (show c = 0 ∨ c = 1 ∨ (¬ c = 0 ∧ ¬ c = 1) by omega) with rfl | rfl | ⟨h0, h1⟩
  · exact none_zero ch cy I a cap w
  · exact none_one ch cy I a cap w
  · exact none_not c ch cy I a cap w h0 h1
theorem walk_AgreeNone (a0 : Int) (v1 : Array Value) (w : World) (_w0 : (Lit.int .i64 a0).wf = true) (_s1 : v1.size = Try.prog.cellsOf 35) (w1 : Rd Try.prog w 35 v1.toList) :
    Calls Try.prog 5 #[.int .i64 a0, .agg v1] w fun e w' => e = .returned (.bool true) ∧ Below w.heap.size w w' := by
  obtain ⟨ch, cy, I, a, cap, hc, _⟩ := reading_cells w1
  obtain rfl := array_of_list hc
  exact none_any a0 ch cy I a cap w
end Go.Proofs.Ytbbacmlcimgjbaa
