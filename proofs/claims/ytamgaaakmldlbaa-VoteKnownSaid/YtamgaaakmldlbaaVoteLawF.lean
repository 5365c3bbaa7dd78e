/-
  The walk of the statement VoteKnown of chapter 12. 
-/
import Derived.Test.YtamgaaakmldlbaaVoteLawE
namespace Go.Proofs.Ytamgaaakmldlbaa
open Go.RowKit
attribute [local irreducible] VSt.put VSt.fin VSt.stop VSt.reset VSt.step
def theCalls : List (Int × Int × Frm) := [(0, 0, ⟨2, 1, 5, 1⟩), (0, 1, ⟨2, 1, 5, 1⟩), (0, 1, ⟨2, 1, 4, 1⟩), (0, 1, ⟨2, 2, 5, 1⟩), (0, 1, ⟨2, 1, 5, 0⟩), (0, 0, ⟨1, 1, 5, 1⟩), (0, 1, ⟨1, 1, 5, 1⟩), (0, 2, ⟨2, 1, 5, 1⟩), (0, -1, ⟨2, 1, 5, 1⟩), (3, 0, ⟨0, 0, 0, 0⟩), (4, 0, ⟨0, 0, 0, 0⟩), (5, 0, ⟨0, 0, 0, 0⟩)]
theorem theCalls_length : theCalls.length = 12 := rfl
attribute [local irreducible] theCalls
set_option maxRecDepth 100000 in
set_option maxHeartbeats 8000000 in
theorem walk_VoteKnown (w : World) : Calls Try.prog 7 #[] w fun e w' => e = .returned (.bool true) ∧ Below w.heap.size w w' := by
  go_enter Try.func7, Try.ntmps7
  go_wp2_with fail
  obtain ⟨x1, hx1⟩ : ∃ x, x = w.alloc (Obj.cells #[Value.int IntKind.i64 1, Value.int IntKind.i64 1, Value.int IntKind.u64 5, Value.int IntKind.u32 1] 27) := ⟨_, rfl⟩
  have s1 : x1.heap.size = w.heap.size + 1 := by rw [hx1]; simp
  have k1 : x1.heap[w.heap.size]? = some (Obj.cells #[Value.int IntKind.i64 1, Value.int IntKind.i64 1, Value.int IntKind.u64 5, Value.int IntKind.u32 1] 27) := by rw [hx1]; exact heap_new' _ _
  have b1 : Below w.heap.size w x1 := by rw [hx1]; exact below1 _ _
  obtain ⟨x2, hx2⟩ : ∃ x, x = x1.alloc (Obj.cells #[Value.int IntKind.i64 2, Value.int IntKind.i64 1, Value.int IntKind.u64 5, Value.int IntKind.u32 1] 27) := ⟨_, rfl⟩
  have s2 : x2.heap.size = w.heap.size + 2 := by rw [hx2]; simp [s1]
  have k2 : x2.heap[x1.heap.size]? = some (Obj.cells #[Value.int IntKind.i64 2, Value.int IntKind.i64 1, Value.int IntKind.u64 5, Value.int IntKind.u32 1] 27) := by rw [hx2]; exact heap_new' _ _
  have b2 : Below w.heap.size w x2 := by rw [hx2]; exact below_on b1 (below1 _ _)
  obtain ⟨x3, hx3⟩ : ∃ x, x = x2.alloc (Obj.cells #[Value.int IntKind.i64 2, Value.int IntKind.i64 1, Value.int IntKind.u64 4, Value.int IntKind.u32 1] 27) := ⟨_, rfl⟩
  have s3 : x3.heap.size = w.heap.size + 3 := by rw [hx3]; simp [s2]
  have k3 : x3.heap[x2.heap.size]? = some (Obj.cells #[Value.int IntKind.i64 2, Value.int IntKind.i64 1, Value.int IntKind.u64 4, Value.int IntKind.u32 1] 27) := by rw [hx3]; exact heap_new' _ _
  have b3 : Below w.heap.size w x3 := by rw [hx3]; exact below_on b2 (below1 _ _)
  obtain ⟨x4, hx4⟩ : ∃ x, x = x3.alloc (Obj.cells #[Value.int IntKind.i64 2, Value.int IntKind.i64 2, Value.int IntKind.u64 5, Value.int IntKind.u32 1] 27) := ⟨_, rfl⟩
  have s4 : x4.heap.size = w.heap.size + 4 := by rw [hx4]; simp [s3]
  have k4 : x4.heap[x3.heap.size]? = some (Obj.cells #[Value.int IntKind.i64 2, Value.int IntKind.i64 2, Value.int IntKind.u64 5, Value.int IntKind.u32 1] 27) := by rw [hx4]; exact heap_new' _ _
  have b4 : Below w.heap.size w x4 := by rw [hx4]; exact below_on b3 (below1 _ _)
  obtain ⟨x5, hx5⟩ : ∃ x, x = x4.alloc (Obj.cells #[Value.int IntKind.i64 2, Value.int IntKind.i64 1, Value.int IntKind.u64 5, Value.int IntKind.u32 0] 27) := ⟨_, rfl⟩
  have s5 : x5.heap.size = w.heap.size + 5 := by rw [hx5]; simp [s4]
  have k5 : x5.heap[x4.heap.size]? = some (Obj.cells #[Value.int IntKind.i64 2, Value.int IntKind.i64 1, Value.int IntKind.u64 5, Value.int IntKind.u32 0] 27) := by rw [hx5]; exact heap_new' _ _
  have b5 : Below w.heap.size w x5 := by rw [hx5]; exact below_on b4 (below1 _ _)
  obtain ⟨x6, hx6⟩ : ∃ x, x = x5.alloc (Obj.cells #[Value.int IntKind.i64 0, Value.int IntKind.i64 0, Value.int IntKind.i64 2, Value.int IntKind.i64 1, Value.int IntKind.u64 5, Value.int IntKind.u32 1, Value.int IntKind.i64 0, Value.int IntKind.i64 1, Value.int IntKind.i64 2, Value.int IntKind.i64 1, Value.int IntKind.u64 5, Value.int IntKind.u32 1, Value.int IntKind.i64 0, Value.int IntKind.i64 1, Value.int IntKind.i64 2, Value.int IntKind.i64 1, Value.int IntKind.u64 4, Value.int IntKind.u32 1, Value.int IntKind.i64 0, Value.int IntKind.i64 1, Value.int IntKind.i64 2, Value.int IntKind.i64 2, Value.int IntKind.u64 5, Value.int IntKind.u32 1, Value.int IntKind.i64 0, Value.int IntKind.i64 1, Value.int IntKind.i64 2, Value.int IntKind.i64 1, Value.int IntKind.u64 5, Value.int IntKind.u32 0, Value.int IntKind.i64 0, Value.int IntKind.i64 0, Value.int IntKind.i64 1, Value.int IntKind.i64 1, Value.int IntKind.u64 5, Value.int IntKind.u32 1, Value.int IntKind.i64 0, Value.int IntKind.i64 1, Value.int IntKind.i64 1, Value.int IntKind.i64 1, Value.int IntKind.u64 5, Value.int IntKind.u32 1, Value.int IntKind.i64 0, Value.int IntKind.i64 2, Value.int IntKind.i64 2, Value.int IntKind.i64 1, Value.int IntKind.u64 5, Value.int IntKind.u32 1, Value.int IntKind.i64 0, Value.int IntKind.i64 (-1), Value.int IntKind.i64 2, Value.int IntKind.i64 1, Value.int IntKind.u64 5, Value.int IntKind.u32 1, Value.int IntKind.i64 3, Value.int IntKind.i64 0, Value.int IntKind.i64 0, Value.int IntKind.i64 0, Value.int IntKind.u64 0, Value.int IntKind.u32 0, Value.int IntKind.i64 4, Value.int IntKind.i64 0, Value.int IntKind.i64 0, Value.int IntKind.i64 0, Value.int IntKind.u64 0, Value.int IntKind.u32 0, Value.int IntKind.i64 5, Value.int IntKind.i64 0, Value.int IntKind.i64 0, Value.int IntKind.i64 0, Value.int IntKind.u64 0, Value.int IntKind.u32 0] 46) := ⟨_, rfl⟩
  have s6 : x6.heap.size = w.heap.size + 6 := by rw [hx6]; simp [s5]
  have k6 : x6.heap[x5.heap.size]? = some (Obj.cells #[Value.int IntKind.i64 0, Value.int IntKind.i64 0, Value.int IntKind.i64 2, Value.int IntKind.i64 1, Value.int IntKind.u64 5, Value.int IntKind.u32 1, Value.int IntKind.i64 0, Value.int IntKind.i64 1, Value.int IntKind.i64 2, Value.int IntKind.i64 1, Value.int IntKind.u64 5, Value.int IntKind.u32 1, Value.int IntKind.i64 0, Value.int IntKind.i64 1, Value.int IntKind.i64 2, Value.int IntKind.i64 1, Value.int IntKind.u64 4, Value.int IntKind.u32 1, Value.int IntKind.i64 0, Value.int IntKind.i64 1, Value.int IntKind.i64 2, Value.int IntKind.i64 2, Value.int IntKind.u64 5, Value.int IntKind.u32 1, Value.int IntKind.i64 0, Value.int IntKind.i64 1, Value.int IntKind.i64 2, Value.int IntKind.i64 1, Value.int IntKind.u64 5, Value.int IntKind.u32 0, Value.int IntKind.i64 0, Value.int IntKind.i64 0, Value.int IntKind.i64 1, Value.int IntKind.i64 1, Value.int IntKind.u64 5, Value.int IntKind.u32 1, Value.int IntKind.i64 0, Value.int IntKind.i64 1, Value.int IntKind.i64 1, Value.int IntKind.i64 1, Value.int IntKind.u64 5, Value.int IntKind.u32 1, Value.int IntKind.i64 0, Value.int IntKind.i64 2, Value.int IntKind.i64 2, Value.int IntKind.i64 1, Value.int IntKind.u64 5, Value.int IntKind.u32 1, Value.int IntKind.i64 0, Value.int IntKind.i64 (-1), Value.int IntKind.i64 2, Value.int IntKind.i64 1, Value.int IntKind.u64 5, Value.int IntKind.u32 1, Value.int IntKind.i64 3, Value.int IntKind.i64 0, Value.int IntKind.i64 0, Value.int IntKind.i64 0, Value.int IntKind.u64 0, Value.int IntKind.u32 0, Value.int IntKind.i64 4, Value.int IntKind.i64 0, Value.int IntKind.i64 0, Value.int IntKind.i64 0, Value.int IntKind.u64 0, Value.int IntKind.u32 0, Value.int IntKind.i64 5, Value.int IntKind.i64 0, Value.int IntKind.i64 0, Value.int IntKind.i64 0, Value.int IntKind.u64 0, Value.int IntKind.u32 0] 46) := by rw [hx6]; exact heap_new' _ _
  have b6 : Below w.heap.size w x6 := by rw [hx6]; exact below_on b5 (below1 _ _)
  have t1 : x6.heap[w.heap.size]? = some (Obj.cells #[Value.int IntKind.i64 1, Value.int IntKind.i64 1, Value.int IntKind.u64 5, Value.int IntKind.u32 1] 27) := (hx6 ▸ blk_keep (below1 _ _) (hx5 ▸ blk_keep (below1 _ _) (hx4 ▸ blk_keep (below1 _ _) (hx3 ▸ blk_keep (below1 _ _) (hx2 ▸ blk_keep (below1 _ _) k1)))))
  have t2 : x6.heap[w.heap.size + 1]? = some (Obj.cells #[Value.int IntKind.i64 2, Value.int IntKind.i64 1, Value.int IntKind.u64 5, Value.int IntKind.u32 1] 27) := by rw [← s1]; exact (hx6 ▸ blk_keep (below1 _ _) (hx5 ▸ blk_keep (below1 _ _) (hx4 ▸ blk_keep (below1 _ _) (hx3 ▸ blk_keep (below1 _ _) k2))))
  have t6 : x6.heap[w.heap.size + 5]? = some (Obj.cells #[Value.int IntKind.i64 0, Value.int IntKind.i64 0, Value.int IntKind.i64 2, Value.int IntKind.i64 1, Value.int IntKind.u64 5, Value.int IntKind.u32 1, Value.int IntKind.i64 0, Value.int IntKind.i64 1, Value.int IntKind.i64 2, Value.int IntKind.i64 1, Value.int IntKind.u64 5, Value.int IntKind.u32 1, Value.int IntKind.i64 0, Value.int IntKind.i64 1, Value.int IntKind.i64 2, Value.int IntKind.i64 1, Value.int IntKind.u64 4, Value.int IntKind.u32 1, Value.int IntKind.i64 0, Value.int IntKind.i64 1, Value.int IntKind.i64 2, Value.int IntKind.i64 2, Value.int IntKind.u64 5, Value.int IntKind.u32 1, Value.int IntKind.i64 0, Value.int IntKind.i64 1, Value.int IntKind.i64 2, Value.int IntKind.i64 1, Value.int IntKind.u64 5, Value.int IntKind.u32 0, Value.int IntKind.i64 0, Value.int IntKind.i64 0, Value.int IntKind.i64 1, Value.int IntKind.i64 1, Value.int IntKind.u64 5, Value.int IntKind.u32 1, Value.int IntKind.i64 0, Value.int IntKind.i64 1, Value.int IntKind.i64 1, Value.int IntKind.i64 1, Value.int IntKind.u64 5, Value.int IntKind.u32 1, Value.int IntKind.i64 0, Value.int IntKind.i64 2, Value.int IntKind.i64 2, Value.int IntKind.i64 1, Value.int IntKind.u64 5, Value.int IntKind.u32 1, Value.int IntKind.i64 0, Value.int IntKind.i64 (-1), Value.int IntKind.i64 2, Value.int IntKind.i64 1, Value.int IntKind.u64 5, Value.int IntKind.u32 1, Value.int IntKind.i64 3, Value.int IntKind.i64 0, Value.int IntKind.i64 0, Value.int IntKind.i64 0, Value.int IntKind.u64 0, Value.int IntKind.u32 0, Value.int IntKind.i64 4, Value.int IntKind.i64 0, Value.int IntKind.i64 0, Value.int IntKind.i64 0, Value.int IntKind.u64 0, Value.int IntKind.u32 0, Value.int IntKind.i64 5, Value.int IntKind.i64 0, Value.int IntKind.i64 0, Value.int IntKind.i64 0, Value.int IntKind.u64 0, Value.int IntKind.u32 0] 46) := by rw [← s5]; exact k6
  rw [← hx1, ← hx2, ← hx3, ← hx4, ← hx5, ← hx6]
  have hC : CallsAt x6 (some ⟨w.heap.size + 5, 0, none⟩) theCalls := calls_lit theCalls (by unfold theCalls; rfl) t6
  have hsz : w.heap.size + 6 = x6.heap.size := s6.symm
  clear hx1 hx2 hx3 hx4 hx5 hx6 s1 s2 s3 s4 s5 s6 k1 k2 k3 k4 k5 k6 b1 b2 b3 b4 b5 t6
  have hget : ∀ w', Below x6.heap.size x6 w' → ∀ i c, theCalls[i]? = some c → w'.cell? ⟨w.heap.size + 5, i * 6, none⟩ = some (.int .i64 c.1) ∧ w'.cell? ⟨w.heap.size + 5, i * 6 + 1, none⟩ = some (.int .i64 c.2.1) ∧ w'.cell? ⟨w.heap.size + 5, i * 6 + 2, none⟩ = some (.int .i64 c.2.2.c) ∧ w'.cell? ⟨w.heap.size + 5, i * 6 + 3, none⟩ = some (.int .i64 c.2.2.e) ∧ w'.cell? ⟨w.heap.size + 5, i * 6 + 4, none⟩ = some (.int .u64 c.2.2.p) ∧ w'.cell? ⟨w.heap.size + 5, i * 6 + 5, none⟩ = some (.int .u32 c.2.2.q) := by
    intro w' hw' i c hi
    rcases hC.below hw' with h | ⟨b, off, hab, hcells⟩
    · rw [h] at hi; simp at hi
    · cases hab
      have := hcells i c hi
      simpa only [Nat.zero_add] using this
  have HG := Lib.hid hget
  have HSZ := Lib.hid hsz
  clear hget hC hsz
  go_loopw [7] (fun i wr => ∃ q : Nat, q ≤ 12 ∧ i = .int .i64 q ∧ Below x6.heap.size x6 wr) (fun i _ => 12 - (intOf i).toNat)
  case atStart => exact ⟨0, by omega, rfl, Below.refl _ _⟩
  case round =>
    obtain ⟨q, hq, rfl, hB⟩ := hrel
    by_cases hlt : q < 12
    · have d1 : (0 : Int) ≤ q := by omega
      have d2 : (q : Int) < 12 := by omega
      go_wp2_with fail
      go_loopw [8] (fun i wr => ∃ q2 : Nat, q2 ≤ 12 ∧ i = .int .i64 q2 ∧ Below x6.heap.size x6 wr) (fun i _ => 12 - (intOf i).toNat)
      case atStart => exact ⟨0, by omega, rfl, hB⟩
      case round =>
        obtain ⟨q2, hq2, rfl, hB⟩ := hrel
        by_cases hlt2 : q2 < 12
        · have d3 : (0 : Int) ≤ q2 := by omega
          have d4 : (q2 : Int) < 12 := by omega
          go_wp2_with fail
          go_loopw [9] (fun i wr => ∃ q3 : Nat, q3 ≤ 12 ∧ i = .int .i64 q3 ∧ Below x6.heap.size x6 wr) (fun i _ => 12 - (intOf i).toNat)
          case atStart => exact ⟨0, by omega, rfl, hB⟩
          case round =>
            obtain ⟨q3, hq3, rfl, hB⟩ := hrel
            by_cases hlt3 : q3 < 12
            · have d5 : (0 : Int) ≤ q3 := by omega
              have d6 : (q3 : Int) < 12 := by omega
              obtain ⟨u1, hu1⟩ : ∃ c, theCalls[q]? = some c := ⟨_, List.getElem?_eq_getElem (by rw [theCalls_length]; exact hlt)⟩
              obtain ⟨u2, hu2⟩ : ∃ c, theCalls[q2]? = some c := ⟨_, List.getElem?_eq_getElem (by rw [theCalls_length]; exact hlt2)⟩
              obtain ⟨u3, hu3⟩ : ∃ c, theCalls[q3]? = some c := ⟨_, List.getElem?_eq_getElem (by rw [theCalls_length]; exact hlt3)⟩
              have HS : Hid (∀ w', Below wr.heap.size wr w' → (w'.cell? ⟨w.heap.size, 0, none⟩ = some (.int .i64 1) ∧ w'.cell? ⟨w.heap.size, 1, none⟩ = some (.int .i64 1) ∧ w'.cell? ⟨w.heap.size, 2, none⟩ = some (.int .u64 5) ∧ w'.cell? ⟨w.heap.size, 3, none⟩ = some (.int .u32 1) ∧ w'.cell? ⟨w.heap.size + 1, 0, none⟩ = some (.int .i64 2) ∧ w'.cell? ⟨w.heap.size + 1, 1, none⟩ = some (.int .i64 1) ∧ w'.cell? ⟨w.heap.size + 1, 2, none⟩ = some (.int .u64 5) ∧ w'.cell? ⟨w.heap.size + 1, 3, none⟩ = some (.int .u32 1) ∧ w'.cell? ⟨w.heap.size + 5, q * 6, none⟩ = some (.int .i64 u1.1) ∧ w'.cell? ⟨w.heap.size + 5, q * 6 + 1, none⟩ = some (.int .i64 u1.2.1) ∧ w'.cell? ⟨w.heap.size + 5, q * 6 + 2, none⟩ = some (.int .i64 u1.2.2.c) ∧ w'.cell? ⟨w.heap.size + 5, q * 6 + 3, none⟩ = some (.int .i64 u1.2.2.e) ∧ w'.cell? ⟨w.heap.size + 5, q * 6 + 4, none⟩ = some (.int .u64 u1.2.2.p) ∧ w'.cell? ⟨w.heap.size + 5, q * 6 + 5, none⟩ = some (.int .u32 u1.2.2.q) ∧ w'.cell? ⟨w.heap.size + 5, q2 * 6, none⟩ = some (.int .i64 u2.1) ∧ w'.cell? ⟨w.heap.size + 5, q2 * 6 + 1, none⟩ = some (.int .i64 u2.2.1) ∧ w'.cell? ⟨w.heap.size + 5, q2 * 6 + 2, none⟩ = some (.int .i64 u2.2.2.c) ∧ w'.cell? ⟨w.heap.size + 5, q2 * 6 + 3, none⟩ = some (.int .i64 u2.2.2.e) ∧ w'.cell? ⟨w.heap.size + 5, q2 * 6 + 4, none⟩ = some (.int .u64 u2.2.2.p) ∧ w'.cell? ⟨w.heap.size + 5, q2 * 6 + 5, none⟩ = some (.int .u32 u2.2.2.q) ∧ w'.cell? ⟨w.heap.size + 5, q3 * 6, none⟩ = some (.int .i64 u3.1) ∧ w'.cell? ⟨w.heap.size + 5, q3 * 6 + 1, none⟩ = some (.int .i64 u3.2.1) ∧ w'.cell? ⟨w.heap.size + 5, q3 * 6 + 2, none⟩ = some (.int .i64 u3.2.2.c) ∧ w'.cell? ⟨w.heap.size + 5, q3 * 6 + 3, none⟩ = some (.int .i64 u3.2.2.e) ∧ w'.cell? ⟨w.heap.size + 5, q3 * 6 + 4, none⟩ = some (.int .u64 u3.2.2.p) ∧ w'.cell? ⟨w.heap.size + 5, q3 * 6 + 5, none⟩ = some (.int .u32 u3.2.2.q))) := Lib.hid (by
                intro w' hw'
                obtain ⟨g10, g11, g12, g13, g14, g15⟩ := HG.out w' (below_on hB hw') q u1 hu1
                obtain ⟨g20, g21, g22, g23, g24, g25⟩ := HG.out w' (below_on hB hw') q2 u2 hu2
                obtain ⟨g30, g31, g32, g33, g34, g35⟩ := HG.out w' (below_on hB hw') q3 u3 hu3
                exact ⟨blk_cell (blk_keep (below_on hB hw') t1) 0 _ rfl, blk_cell (blk_keep (below_on hB hw') t1) 1 _ rfl, blk_cell (blk_keep (below_on hB hw') t1) 2 _ rfl, blk_cell (blk_keep (below_on hB hw') t1) 3 _ rfl, blk_cell (blk_keep (below_on hB hw') t2) 0 _ rfl, blk_cell (blk_keep (below_on hB hw') t2) 1 _ rfl, blk_cell (blk_keep (below_on hB hw') t2) 2 _ rfl, blk_cell (blk_keep (below_on hB hw') t2) 3 _ rfl, g10, g11, g12, g13, g14, g15, g20, g21, g22, g23, g24, g25, g30, g31, g32, g33, g34, g35⟩)
              have hbd : Below wr.heap.size wr wr.drew := (Below.refl _ _).drew
              have hba : ∀ o, Below wr.heap.size wr (wr.drew.alloc o) := fun o => below_on hbd (below1 _ o)
              have HBA := Lib.hid hba
              clear hu1 hu2 hu3 hba
              go_wp2_with fail
              go_region_held3 (fun w' => (w'.cell? ⟨w.heap.size, 0, none⟩ = some (.int .i64 1) ∧ w'.cell? ⟨w.heap.size, 1, none⟩ = some (.int .i64 1) ∧ w'.cell? ⟨w.heap.size, 2, none⟩ = some (.int .u64 5) ∧ w'.cell? ⟨w.heap.size, 3, none⟩ = some (.int .u32 1) ∧ w'.cell? ⟨w.heap.size + 1, 0, none⟩ = some (.int .i64 2) ∧ w'.cell? ⟨w.heap.size + 1, 1, none⟩ = some (.int .i64 1) ∧ w'.cell? ⟨w.heap.size + 1, 2, none⟩ = some (.int .u64 5) ∧ w'.cell? ⟨w.heap.size + 1, 3, none⟩ = some (.int .u32 1) ∧ w'.cell? ⟨w.heap.size + 5, q * 6, none⟩ = some (.int .i64 u1.1) ∧ w'.cell? ⟨w.heap.size + 5, q * 6 + 1, none⟩ = some (.int .i64 u1.2.1) ∧ w'.cell? ⟨w.heap.size + 5, q * 6 + 2, none⟩ = some (.int .i64 u1.2.2.c) ∧ w'.cell? ⟨w.heap.size + 5, q * 6 + 3, none⟩ = some (.int .i64 u1.2.2.e) ∧ w'.cell? ⟨w.heap.size + 5, q * 6 + 4, none⟩ = some (.int .u64 u1.2.2.p) ∧ w'.cell? ⟨w.heap.size + 5, q * 6 + 5, none⟩ = some (.int .u32 u1.2.2.q) ∧ w'.cell? ⟨w.heap.size + 5, q2 * 6, none⟩ = some (.int .i64 u2.1) ∧ w'.cell? ⟨w.heap.size + 5, q2 * 6 + 1, none⟩ = some (.int .i64 u2.2.1) ∧ w'.cell? ⟨w.heap.size + 5, q2 * 6 + 2, none⟩ = some (.int .i64 u2.2.2.c) ∧ w'.cell? ⟨w.heap.size + 5, q2 * 6 + 3, none⟩ = some (.int .i64 u2.2.2.e) ∧ w'.cell? ⟨w.heap.size + 5, q2 * 6 + 4, none⟩ = some (.int .u64 u2.2.2.p) ∧ w'.cell? ⟨w.heap.size + 5, q2 * 6 + 5, none⟩ = some (.int .u32 u2.2.2.q) ∧ w'.cell? ⟨w.heap.size + 5, q3 * 6, none⟩ = some (.int .i64 u3.1) ∧ w'.cell? ⟨w.heap.size + 5, q3 * 6 + 1, none⟩ = some (.int .i64 u3.2.1) ∧ w'.cell? ⟨w.heap.size + 5, q3 * 6 + 2, none⟩ = some (.int .i64 u3.2.2.c) ∧ w'.cell? ⟨w.heap.size + 5, q3 * 6 + 3, none⟩ = some (.int .i64 u3.2.2.e) ∧ w'.cell? ⟨w.heap.size + 5, q3 * 6 + 4, none⟩ = some (.int .u64 u3.2.2.p) ∧ w'.cell? ⟨w.heap.size + 5, q3 * 6 + 5, none⟩ = some (.int .u32 u3.2.2.q))) (first | exact HS.out _ hbd | exact HS.out _ (HBA.out _)) (fail)
              have hl6 := calls_lit (w := wr.drew.alloc (Obj.cells _ 46)) (g := wr.heap.size) [(0, 0, ⟨1, 1, 5, 1⟩), (0, 1, ⟨1, 1, 5, 1⟩), u1, u2, u3, (0, 0, ⟨2, 1, 5, 1⟩)] rfl (heap_new' wr.drew _)
              go_wp2_with fail
              refine (plays_any _ 6 6 [(0, 0, ⟨1, 1, 5, 1⟩), (0, 1, ⟨1, 1, 5, 1⟩), u1, u2, u3, (0, 0, ⟨2, 1, 5, 1⟩)] _ rfl (by unfold maxLen; omega) hl6).mono ?_
              rintro e y1 ⟨rfl, hy1⟩
              have hl7 := hl6.below hy1
              go_wp2_with fail
              refine (both_any _ 6 6 [(0, 0, ⟨1, 1, 5, 1⟩), (0, 1, ⟨1, 1, 5, 1⟩), u1, u2, u3, (0, 0, ⟨2, 1, 5, 1⟩)] _ rfl (by unfold maxLen; omega) (by omega) (by unfold maxLen; omega) hl7).mono ?_
              rintro e y2 ⟨rfl, hy2⟩
              have hl8 := (hl7.below hy2).drop 2
              go_wp2_with fail
              refine (plays_any _ 4 4 [u1, u2, u3, (0, 0, ⟨2, 1, 5, 1⟩)] _ rfl (by unfold maxLen; omega) hl8).mono ?_
              rintro e y3 ⟨rfl, hy3⟩
              have b9 := below_on (below_on (below_on (below_on hB (HBA.out _)) hy1) hy2) hy3
              go_wp2_with fail
              go_roundw
              case rel => exact ⟨q3 + 1, by omega, by go_num, b9⟩
              case measure => simp [intOf]; omega
            · obtain rfl : q3 = 12 := by omega
              go_wp2_with fail
              go_roundw
              case rel => exact ⟨q2 + 1, by omega, by go_num, hB⟩
              case measure => simp [intOf]; omega
        · obtain rfl : q2 = 12 := by omega
          obtain ⟨u1, hu1⟩ : ∃ c, theCalls[q]? = some c := ⟨_, List.getElem?_eq_getElem (by rw [theCalls_length]; exact hlt)⟩
          have HS : Hid (∀ w', Below wr.heap.size wr w' → (w'.cell? ⟨w.heap.size + 1, 0, none⟩ = some (.int .i64 2) ∧ w'.cell? ⟨w.heap.size + 1, 1, none⟩ = some (.int .i64 1) ∧ w'.cell? ⟨w.heap.size + 1, 2, none⟩ = some (.int .u64 5) ∧ w'.cell? ⟨w.heap.size + 1, 3, none⟩ = some (.int .u32 1) ∧ w'.cell? ⟨w.heap.size + 5, q * 6, none⟩ = some (.int .i64 u1.1) ∧ w'.cell? ⟨w.heap.size + 5, q * 6 + 1, none⟩ = some (.int .i64 u1.2.1) ∧ w'.cell? ⟨w.heap.size + 5, q * 6 + 2, none⟩ = some (.int .i64 u1.2.2.c) ∧ w'.cell? ⟨w.heap.size + 5, q * 6 + 3, none⟩ = some (.int .i64 u1.2.2.e) ∧ w'.cell? ⟨w.heap.size + 5, q * 6 + 4, none⟩ = some (.int .u64 u1.2.2.p) ∧ w'.cell? ⟨w.heap.size + 5, q * 6 + 5, none⟩ = some (.int .u32 u1.2.2.q))) := Lib.hid (by
            intro w' hw'
            obtain ⟨g10, g11, g12, g13, g14, g15⟩ := HG.out w' (below_on hB hw') q u1 hu1
            exact ⟨blk_cell (blk_keep (below_on hB hw') t2) 0 _ rfl, blk_cell (blk_keep (below_on hB hw') t2) 1 _ rfl, blk_cell (blk_keep (below_on hB hw') t2) 2 _ rfl, blk_cell (blk_keep (below_on hB hw') t2) 3 _ rfl, g10, g11, g12, g13, g14, g15⟩)
          have hbd : Below wr.heap.size wr wr.drew := (Below.refl _ _).drew
          have M1 : Hid (∀ w', Below wr.heap.size wr w' → Calls Try.prog 3 #[.agg #[.int .i64 2, .int .i64 1, .int .u64 5, .int .u32 1], .agg #[.int .i64 u1.2.2.c, .int .i64 u1.2.2.e, .int .u64 u1.2.2.p, .int .u32 u1.2.2.q], .int .i64 (q : Int)] w' fun e w'' => e = .returned (.bool true) ∧ Below wr.heap.size wr w'') := Lib.hid (fun w' hw' => (unlike_any ⟨2, 1, 5, 1⟩ u1.2.2 q w').mono fun e w9 ⟨h1, h2⟩ => ⟨h1, below_on hw' h2⟩)
          have M2 : Hid (∀ w', Below wr.heap.size wr w' → Calls Try.prog 6 #[.int .i64 (q : Int), .agg #[.int .i64 u1.2.2.c, .int .i64 u1.2.2.e, .int .u64 u1.2.2.p, .int .u32 u1.2.2.q]] w' fun e w'' => e = .returned (.bool true) ∧ Below wr.heap.size wr w'') := Lib.hid (fun w' hw' => (none_any q u1.2.2 w').mono fun e w9 ⟨h1, h2⟩ => ⟨h1, below_on hw' h2⟩)
          clear hu1
          go_wp2_with fail
          go_region_held3 (fun w' => (w'.cell? ⟨w.heap.size + 1, 0, none⟩ = some (.int .i64 2) ∧ w'.cell? ⟨w.heap.size + 1, 1, none⟩ = some (.int .i64 1) ∧ w'.cell? ⟨w.heap.size + 1, 2, none⟩ = some (.int .u64 5) ∧ w'.cell? ⟨w.heap.size + 1, 3, none⟩ = some (.int .u32 1) ∧ w'.cell? ⟨w.heap.size + 5, q * 6, none⟩ = some (.int .i64 u1.1) ∧ w'.cell? ⟨w.heap.size + 5, q * 6 + 1, none⟩ = some (.int .i64 u1.2.1) ∧ w'.cell? ⟨w.heap.size + 5, q * 6 + 2, none⟩ = some (.int .i64 u1.2.2.c) ∧ w'.cell? ⟨w.heap.size + 5, q * 6 + 3, none⟩ = some (.int .i64 u1.2.2.e) ∧ w'.cell? ⟨w.heap.size + 5, q * 6 + 4, none⟩ = some (.int .u64 u1.2.2.p) ∧ w'.cell? ⟨w.heap.size + 5, q * 6 + 5, none⟩ = some (.int .u32 u1.2.2.q))) (exact HS.out _ (by assumption))
            (first
              | ((with_reducible refine (M1.out _ (by assumption)).mono ?_); rintro e y1 ⟨rfl, hy1⟩)
              | ((with_reducible refine (M2.out _ (by assumption)).mono ?_); rintro e y1 ⟨rfl, hy1⟩))
          have b9 := below_on hB hy1
          go_wp2_with fail
          go_roundw
          case rel => exact ⟨q + 1, by omega, by go_num, b9⟩
          case measure => simp [intOf]; omega
    · obtain rfl : q = 12 := by omega
      go_wp2_with fail
      refine (plays_any _ 3 3 [(0, 0, ⟨9223372036854775807, 0, 0, 0⟩), (0, 1, ⟨9223372036854775807, 0, 0, 0⟩), (0, 0, ⟨-9223372036854775808, 0, 0, 0⟩)] _ rfl (by unfold maxLen; omega) (calls_lit _ rfl (heap_new' _ _))).mono ?_
      rintro e w3 ⟨rfl, hb3⟩
      have b3 := below_on (below_on hB (below1 _ _)) hb3
      go_wp2_with fail
      refine (works_any _).mono ?_
      rintro e w4 ⟨rfl, hb4⟩
      go_wp2_with fail
      go_ret
      exact ⟨rfl, below_on (below_on b6 b3) hb4⟩
end Go.Proofs.Ytamgaaakmldlbaa
