/-
  Walks of the document's answer for chapter 1: Change.
-/
import Derived.Test.YtegkogbkoealaaaCrcRef
import Derived.RegionTactic
namespace Go.Proofs.Ytegkogbkoealaaa
open Go.RowKit
attribute [local irreducible] Crc.it Crc.ah8 Crc.bk8 Crc.run Crc.sum Crc.step Crc.ah Crc.bk Crc.pick Crc.tab

/-- n bytes that are nought -/
def noughts (n : Nat) : Array Value := madeCells #[.int .u8 0] n
theorem noughts_get (n k : Nat) (h : k < n) : (noughts n)[k]? = some (.int .u8 0) := by
  rw [← Array.getElem?_toList, noughts, toList_madeCells_one, List.getElem?_replicate_of_lt h]
theorem noughts_size (n : Nat) : (noughts n).size = n := size_madeCells _ _
theorem noughts_bytes (W : World) (g m a : Nat) (t : TypeId) (ha : a < 256) (hg : W.heap[g]? = some (.cells ((noughts (m + 1)).setIfInBounds 0 (.int .u8 (a : Int))) t (0, 0))) :
    BytesAt W (some ⟨g, 0, none⟩) (a :: List.replicate m 0) := by
  refine ⟨?_, .inr ⟨g, 0, rfl, ?_⟩⟩
  · intro c hc
    rcases List.mem_cons.1 hc with rfl | hc
    · exact ha
    · rw [List.eq_of_mem_replicate hc]; omega
  · intro i hi
    have hs := noughts_size (m + 1)
    simp only [List.length_cons, List.length_replicate] at hi
    simp only [World.cell?, hg]
    match i with
    | 0 => simp [hs]
    | i + 1 => 
      have := noughts_get (m + 1) (i + 1) hi
      simp [this, List.getD_eq_getElem?_getD, List.getElem?_replicate_of_lt (show i < m by omega)]
theorem noughts_len (m a : Nat) : (a :: List.replicate m 0).length = m + 1 := by simp
theorem info_u8 : (Try.prog.info? 5).map (fun i => (i.zero, i.size, i.bytes)) = some (some (.int .u8 0), 1, 1) := by kernel_rfl
theorem run_noughts (n : Nat) (w : World) (h : n ≤ 281474976710656) : (Instr.makeSlice 22 (.int .i64 n) (.int .i64 n)).run Try.prog w = .ok (.slice (some ⟨w.heap.size, 0, none⟩) n n) (w.alloc (.cells (noughts n) 5)) := by
  obtain ⟨i0, hi, hz0, hz1, hz2⟩ := info_parts info_u8
  have := run_make (P := Try.prog) w 22 5 i0 (.int .u8 0) Try.underlying22 hi hz0 .i64 .i64 n n (by omega) (by omega) (by rw [hz2]; omega) (by omega)
  rw [hz1, Nat.mul_one] at this
  simpa [noughts, Value.cells] using this

attribute [local irreducible] noughts

theorem refchange_no (s a b : Int) (m : Int) (w : World) (hm : m < 0 ∨ 65536 < m) :
    Calls Try.prog 15 #[.int .u32 s, .int .u8 a, .int .u8 b, .int .i64 m] w fun e w' => e = .returned (.tuple #[.int .u32 0, .bool false]) ∧ w = w' := by
  go_enter Try.func15, Try.ntmps15
  rcases hm with hm | hm
  · go_wp2
    go_ret2
    exact ⟨rfl, rfl⟩
  · by_cases h : m < 0
    · omega
    · go_wp2
      go_ret2
      exact ⟨rfl, rfl⟩

theorem refchange_any (s a b m : Nat) (w : World) (hs0 : s < 4294967296) (ha : a < 256) (hb : b < 256) (hm : m ≤ 65536) :
    Calls Try.prog 15 #[.int .u32 s, .int .u8 a, .int .u8 b, .int .i64 m] w fun e w' => e = .returned (.tuple #[.int .u32 (s ^^^ Crc.it Crc.ah8 (m + 1) (a ^^^ b) : Nat), .bool true]) ∧ Below w.heap.size w w' := by
  have hmk : ∀ w, (Instr.makeSlice 22 (.int .i64 ((m : Int) + 1)) (.int .i64 ((m : Int) + 1))).run Try.prog w = .ok (.slice (some ⟨w.heap.size, 0, none⟩) (m + 1) (m + 1)) (w.alloc (.cells (noughts (m + 1)) 5)) := fun w => run_noughts (m + 1) w (by omega)
  go_enter Try.func15, Try.ntmps15
  go_wp2
  have hn0 := noughts_get (m + 1) 0 (by omega)
  go_region
  all_goals go_wp2_with fail
  · have hs := two_new w (Obj.cells ((noughts (m + 1)).setIfInBounds 0 (Value.int IntKind.u8 ↑a)) 5) (Obj.cells ((noughts (m + 1)).setIfInBounds 0 (Value.int IntKind.u8 ↑b)) 5)
    have hB := below2 w (Obj.cells ((noughts (m + 1)).setIfInBounds 0 (Value.int IntKind.u8 ↑a)) 5) (Obj.cells ((noughts (m + 1)).setIfInBounds 0 (Value.int IntKind.u8 ↑b)) 5)
    generalize ((w.alloc (Obj.cells ((noughts (m + 1)).setIfInBounds 0 (Value.int IntKind.u8 ↑a)) 5)).alloc (Obj.cells ((noughts (m + 1)).setIfInBounds 0 (Value.int IntKind.u8 ↑b)) 5)).drew = w1 at *
    have hA1 := noughts_bytes w1 _ m a _ ha hs.1
    have hA2 := noughts_bytes w1 _ m b _ hb hs.2
    have HL := Lib.hid (Crc.change_ref s a b m)
    have hl1 := Crc.sum_lt _ hA1.1
    have hl2 := Crc.sum_lt _ hA2.1
    have HX1 := Lib.hid (crc_xor s (Crc.sum (a :: List.replicate m 0)) hs0 hl1)
    have HX2 := Lib.hid (crc_xor (s ^^^ Crc.sum (a :: List.replicate m 0)) (Crc.sum (b :: List.replicate m 0)) (Crc.xor_lt32 hs0 hl1) hl2)
    clear hs hn0 hl1 hl2
    refine (refsum_any _ _ _ _ _ (noughts_len m a) (by unfold maxLen; omega) hA1).mono ?_
    rintro e w2 ⟨rfl, hB2⟩
    go_wp2_with fail
    refine (refsum_any _ _ _ _ _ (noughts_len m b) (by unfold maxLen; omega) (hA2.below hB2)).mono ?_
    rintro e w3 ⟨rfl, hB3⟩
    go_wp2_with fail
    rw [HX1.out, HX2.out, HL.out]
    go_ret2
    exact ⟨rfl, below_on (below_on hB hB2) hB3⟩
  · have hs := two_new w (Obj.cells ((noughts (m + 1)).setIfInBounds 0 (Value.int IntKind.u8 ↑b)) 5) (Obj.cells ((noughts (m + 1)).setIfInBounds 0 (Value.int IntKind.u8 ↑a)) 5)
    have hB := below2 w (Obj.cells ((noughts (m + 1)).setIfInBounds 0 (Value.int IntKind.u8 ↑b)) 5) (Obj.cells ((noughts (m + 1)).setIfInBounds 0 (Value.int IntKind.u8 ↑a)) 5)
    generalize ((w.alloc (Obj.cells ((noughts (m + 1)).setIfInBounds 0 (Value.int IntKind.u8 ↑b)) 5)).alloc (Obj.cells ((noughts (m + 1)).setIfInBounds 0 (Value.int IntKind.u8 ↑a)) 5)).drew = w1 at *
    have hA1 := noughts_bytes w1 _ m a _ ha hs.2
    have hA2 := noughts_bytes w1 _ m b _ hb hs.1
    have HL := Lib.hid (Crc.change_ref s a b m)
    have hl1 := Crc.sum_lt _ hA1.1
    have hl2 := Crc.sum_lt _ hA2.1
    have HX1 := Lib.hid (crc_xor s (Crc.sum (a :: List.replicate m 0)) hs0 hl1)
    have HX2 := Lib.hid (crc_xor (s ^^^ Crc.sum (a :: List.replicate m 0)) (Crc.sum (b :: List.replicate m 0)) (Crc.xor_lt32 hs0 hl1) hl2)
    clear hs hn0 hl1 hl2
    refine (refsum_any _ _ _ _ _ (noughts_len m a) (by unfold maxLen; omega) hA1).mono ?_
    rintro e w2 ⟨rfl, hB2⟩
    go_wp2_with fail
    refine (refsum_any _ _ _ _ _ (noughts_len m b) (by unfold maxLen; omega) (hA2.below hB2)).mono ?_
    rintro e w3 ⟨rfl, hB3⟩
    go_wp2_with fail
    rw [HX1.out, HX2.out, HL.out]
    go_ret2
    exact ⟨rfl, below_on (below_on hB hB2) hB3⟩
end Go.Proofs.Ytegkogbkoealaaa
