/-
  Literal rows of calls and of ways, for the statement AgreeKnown of chapter 20.
-/
import Derived.Test.YtbbacmlcimgjbaaAgRead
namespace Go.Proofs.Ytbbacmlcimgjbaa
open Go.RowKit
def calCells : List Cal → List Value
  | [] => []
  | c :: l => .int .i64 c.k :: .int .i64 c.ch :: .int .i64 c.cy :: .int .u64 (c.I.o : Int) :: .int .u32 (c.I.n : Int) :: .int .u32 (c.I.r : Int) :: .slice c.a c.I.c.length c.cap :: calCells l
theorem calCells_get (l : List Cal) : ∀ (i : Nat) (c : Cal), l[i]? = some c → (calCells l)[i * 7]? = some (.int .i64 c.k) ∧ (calCells l)[i * 7 + 1]? = some (.int .i64 c.ch) ∧ (calCells l)[i * 7 + 2]? = some (.int .i64 c.cy) ∧ (calCells l)[i * 7 + 3]? = some (.int .u64 (c.I.o : Int)) ∧ (calCells l)[i * 7 + 4]? = some (.int .u32 (c.I.n : Int)) ∧ (calCells l)[i * 7 + 5]? = some (.int .u32 (c.I.r : Int)) ∧ (calCells l)[i * 7 + 6]? = some (.slice c.a c.I.c.length c.cap) := by
  induction l with
  | nil => intro i c h; simp at h
  | cons d l ih =>
    intro i c h
    rcases i with _ | i
    · simp at h; subst h; simp [calCells]
    · have h' : l[i]? = some c := by simpa using h
      obtain ⟨h0, h1, h2, h3, h4, h5, h6⟩ := ih i c h'
      rw [show (i + 1) * 7 = i * 7 + 7 by omega]
      exact ⟨by simpa [calCells] using h0, by simpa [calCells] using h1, by simpa [calCells] using h2, by simpa [calCells] using h3, by simpa [calCells] using h4, by simpa [calCells] using h5, by simpa [calCells] using h6⟩
theorem cals_lit {w : World} {g : Nat} {t : TypeId} {fr : Nat × Nat} {C : Array Value} (l : List Cal) (hl : ∀ c ∈ l, LongAt w c.a c.cap c.I) (hC : C.toList = calCells l) (hg : w.heap[g]? = some (.cells C t fr)) : CalsAt w (some ⟨g, 0, none⟩) l := by
  refine ⟨hl, .inr ⟨g, 0, rfl, fun i c hi => ?_⟩⟩
  obtain ⟨h0, h1, h2, h3, h4, h5, h6⟩ := calCells_get l i c hi
  simp only [World.cell?, hg, Nat.zero_add, ← Array.getElem?_toList, hC]
  exact ⟨by simpa using h0, by simpa using h1, by simpa using h2, by simpa using h3, by simpa using h4, by simpa using h5, by simpa using h6⟩
def wayCells : List Wy → List Value
  | [] => []
  | c :: l => .int .i64 c.k :: .int .i64 c.s :: .int .i64 c.n :: .int .u64 (c.I.o : Int) :: .int .u32 (c.I.n : Int) :: .int .u32 (c.I.r : Int) :: .slice c.a c.I.c.length c.cap :: wayCells l
theorem wayCells_get (l : List Wy) : ∀ (i : Nat) (c : Wy), l[i]? = some c → (wayCells l)[i * 7]? = some (.int .i64 c.k) ∧ (wayCells l)[i * 7 + 1]? = some (.int .i64 c.s) ∧ (wayCells l)[i * 7 + 2]? = some (.int .i64 c.n) ∧ (wayCells l)[i * 7 + 3]? = some (.int .u64 (c.I.o : Int)) ∧ (wayCells l)[i * 7 + 4]? = some (.int .u32 (c.I.n : Int)) ∧ (wayCells l)[i * 7 + 5]? = some (.int .u32 (c.I.r : Int)) ∧ (wayCells l)[i * 7 + 6]? = some (.slice c.a c.I.c.length c.cap) := by
  induction l with
  | nil => intro i c h; simp at h
  | cons d l ih =>
    intro i c h
    rcases i with _ | i
    · simp at h; subst h; simp [wayCells]
    · have h' : l[i]? = some c := by simpa using h
      obtain ⟨h0, h1, h2, h3, h4, h5, h6⟩ := ih i c h'
      rw [show (i + 1) * 7 = i * 7 + 7 by omega]
      exact ⟨by simpa [wayCells] using h0, by simpa [wayCells] using h1, by simpa [wayCells] using h2, by simpa [wayCells] using h3, by simpa [wayCells] using h4, by simpa [wayCells] using h5, by simpa [wayCells] using h6⟩
theorem ways_lit {w : World} {g : Nat} {t : TypeId} {fr : Nat × Nat} {C : Array Value} (l : List Wy) (hl : ∀ c ∈ l, LongAt w c.a c.cap c.I) (hC : C.toList = wayCells l) (hg : w.heap[g]? = some (.cells C t fr)) : WaysAt w (some ⟨g, 0, none⟩) l := by
  refine ⟨hl, .inr ⟨g, 0, rfl, fun i c hi => ?_⟩⟩
  obtain ⟨h0, h1, h2, h3, h4, h5, h6⟩ := wayCells_get l i c hi
  simp only [World.cell?, hg, Nat.zero_add, ← Array.getElem?_toList, hC]
  exact ⟨by simpa using h0, by simpa using h1, by simpa using h2, by simpa using h3, by simpa using h4, by simpa using h5, by simpa using h6⟩
/-- the two inputs of the known rows -/
def kX : In := ⟨1, 0, 0, [(1, 2)]⟩
def kY : In := ⟨2, 3, 0, [(1, 2)]⟩
def kZ : In := ⟨0, 0, 0, []⟩
def kCals (p q : Nat) : List Cal := [⟨0, 0, 1, kX, some ⟨p, 0, none⟩, 1⟩, ⟨0, 0, 2, kY, some ⟨q, 0, none⟩, 1⟩, ⟨0, 0, 0, kZ, none, 0⟩, ⟨1, 1, 1, kY, some ⟨q, 0, none⟩, 1⟩, ⟨1, 1, 1, kX, some ⟨p, 0, none⟩, 1⟩, ⟨1, 1, 2, kX, some ⟨p, 0, none⟩, 1⟩, ⟨1, 1, 2, kY, some ⟨q, 0, none⟩, 1⟩, ⟨1, 1, 3, kY, some ⟨q, 0, none⟩, 1⟩, ⟨1, 0, 1, kY, some ⟨q, 0, none⟩, 1⟩, ⟨1, 1, 0, kY, some ⟨q, 0, none⟩, 1⟩]
def kWays (p q : Nat) : List Wy := [⟨0, 0, 1, kX, some ⟨p, 0, none⟩, 1⟩, ⟨0, 1, 1, kY, some ⟨q, 0, none⟩, 1⟩, ⟨1, 0, 1, kZ, none, 0⟩, ⟨1, 1, 0, kZ, none, 0⟩, ⟨3, 0, 0, kZ, none, 0⟩, ⟨0, 1, 2, kZ, none, 0⟩, ⟨1, 0, 2, kZ, none, 0⟩, ⟨0, 0, 2, kY, some ⟨q, 0, none⟩, 1⟩, ⟨1, 1, 3, kZ, none, 0⟩, ⟨1, 0, 1, kZ, none, 0⟩]
theorem kCals_length (p q : Nat) : (kCals p q).length = 10 := rfl
theorem one_long {w : World} {p : Nat} {t : TypeId} {fr : Nat × Nat} (h : w.heap[p]? = some (.cells #[.int .u8 1, .int .i64 2] t fr)) (I : In) (hI : I.o < 18446744073709551616 ∧ I.n < 4294967296 ∧ I.r < 4294967296) (hc : I.c = [(1, 2)]) : LongAt w (some ⟨p, 0, none⟩) 1 I := by
  refine ⟨⟨hI.1, hI.2.1, hI.2.2, by rw [hc]; unfold maxLen; decide⟩, ⟨?_, .inr ⟨p, 0, rfl, ?_⟩⟩, fun h => by cases h⟩
  · rw [hc]; intro c h2; simp at h2; subst h2; decide
  · rw [hc]
    intro i c hi
    rcases i with _ | i
    · simp at hi; subst hi
      simp only [World.cell?, h]
      exact ⟨rfl, rfl⟩
    · simp at hi
theorem z_long (w : World) : LongAt w none 0 kZ := ⟨by unfold kZ maxLen; decide, ⟨by simp [kZ], .inl rfl⟩, fun _ => rfl⟩
theorem kCals_long {w : World} {p q : Nat} (hp : LongAt w (some ⟨p, 0, none⟩) 1 kX) (hq : LongAt w (some ⟨q, 0, none⟩) 1 kY) : ∀ c ∈ kCals p q, LongAt w c.a c.cap c.I := by
  intro c hc
  simp only [kCals, List.mem_cons, List.not_mem_nil, or_false] at hc
  rcases hc with rfl | rfl | rfl | rfl | rfl | rfl | rfl | rfl | rfl | rfl
  · exact hp
  · exact hq
  · exact z_long w
  · exact hq
  · exact hp
  · exact hp
  · exact hq
  · exact hq
  · exact hq
  · exact hq
theorem kWays_long {w : World} {p q : Nat} (hp : LongAt w (some ⟨p, 0, none⟩) 1 kX) (hq : LongAt w (some ⟨q, 0, none⟩) 1 kY) : ∀ c ∈ kWays p q, LongAt w c.a c.cap c.I := by
  intro c hc
  simp only [kWays, List.mem_cons, List.not_mem_nil, or_false] at hc
  rcases hc with rfl | rfl | rfl | rfl | rfl | rfl | rfl | rfl | rfl | rfl
  · exact hp
  · exact hq
  · exact z_long w
  · exact z_long w
  · exact z_long w
  · exact z_long w
  · exact z_long w
  · exact hq
  · exact z_long w
  · exact z_long w
theorem mod10 (a b : Nat) (ha : a < 10) (hb : b < 10) : ∃ m : Nat, m < 10 ∧ wrap64 ((a : Int) + (b : Int)) = (a : Int) + (b : Int) ∧ IntKind.i64.wrap ((a : Int) + (b : Int)) = (a : Int) + (b : Int) ∧ (0 : Int) ≤ (a : Int) + (b : Int) ∧ ((a : Int) + (b : Int)) % 10 = (m : Int) ∧ ((a : Int) + (b : Int)).tmod 10 = (m : Int) ∧ wrap64 (m : Int) = m ∧ IntKind.i64.wrap (m : Int) = m ∧ (m : Int) < 10 := by
  have h1 : ((a : Int) + (b : Int)).tmod 10 = ((a : Int) + (b : Int)) % 10 := Int.tmod_eq_emod_of_nonneg (by omega)
  have h2 : wrap64 ((a : Int) + (b : Int)) = (a : Int) + (b : Int) := by unfold wrap64; omega
  have h3 : wrap64 (((a + b) % 10 : Nat) : Int) = (((a + b) % 10 : Nat) : Int) := by unfold wrap64; omega
  exact ⟨(a + b) % 10, Nat.mod_lt _ (by omega), h2, by rw [IntWalk.i64_left]; exact h2, by omega, by omega, by rw [h1]; omega, h3, by rw [IntWalk.i64_left]; exact h3, by omega⟩
theorem mod10b (a b : Nat) (ha : a < 10) (hb : b < 10) : ∃ m : Nat, m < 10 ∧ wrap64 (3 * (b : Int)) = 3 * (b : Int) ∧ IntKind.i64.wrap (3 * (b : Int)) = 3 * (b : Int) ∧ wrap64 ((a : Int) + 3 * (b : Int)) = (a : Int) + 3 * (b : Int) ∧ IntKind.i64.wrap ((a : Int) + 3 * (b : Int)) = (a : Int) + 3 * (b : Int) ∧ (0 : Int) ≤ (a : Int) + 3 * (b : Int) ∧ ((a : Int) + 3 * (b : Int)) % 10 = (m : Int) ∧ ((a : Int) + 3 * (b : Int)).tmod 10 = (m : Int) ∧ wrap64 (m : Int) = m ∧ IntKind.i64.wrap (m : Int) = m ∧ (m : Int) < 10 := by
  have h1 : ((a : Int) + 3 * (b : Int)).tmod 10 = ((a : Int) + 3 * (b : Int)) % 10 := Int.tmod_eq_emod_of_nonneg (by omega)
  have h2 : wrap64 ((a : Int) + 3 * (b : Int)) = (a : Int) + 3 * (b : Int) := by unfold wrap64; omega
  have h4 : wrap64 (3 * (b : Int)) = 3 * (b : Int) := by unfold wrap64; omega
  have h3 : wrap64 (((a + 3 * b) % 10 : Nat) : Int) = (((a + 3 * b) % 10 : Nat) : Int) := by unfold wrap64; omega
  exact ⟨(a + 3 * b) % 10, Nat.mod_lt _ (by omega), h4, by rw [IntWalk.i64_left]; exact h4, h2, by rw [IntWalk.i64_left]; exact h2, by omega, by omega, by rw [h1]; omega, h3, by rw [IntWalk.i64_left]; exact h3, by omega⟩
theorem five {w W : World} {o0 o1 o2 o3 o4 : Obj} (h : W = ((((w.alloc o0).alloc o1).alloc o2).alloc o3).alloc o4) : W.heap[w.heap.size]? = some o0 ∧ W.heap[w.heap.size + 1]? = some o1 ∧ W.heap[w.heap.size + 1 + 1]? = some o2 ∧ W.heap[w.heap.size + 1 + 1 + 1]? = some o3 ∧ W.heap[w.heap.size + 1 + 1 + 1 + 1]? = some o4 ∧ Below w.heap.size w W := by
  have h5 := below_on (below_on (below_on (below_on (below1 w o0) (below1 _ o1)) (below1 _ o2)) (below1 _ o3)) (below1 _ o4)
  rw [← h] at h5
  have n : ∀ (v : World) (o : Obj) (i : Nat), v.heap.size = i → (v.alloc o).heap[i]? = some o := fun v o i hi => by rw [← hi]; show (v.heap.push o)[v.heap.size]? = some o; simp
  have z : ∀ (v : World) (o : Obj) (i : Nat), v.heap.size = i → (v.alloc o).heap.size = i + 1 := fun v o i hi => by rw [← hi]; show (v.heap.push o).size = _; simp
  have k : ∀ (v : World) (o x : Obj) (i : Nat), v.heap[i]? = some x → (v.alloc o).heap[i]? = some x := fun v o x i hi => by
    have hlt : i < v.heap.size := (Array.getElem?_eq_some_iff.1 hi).1
    show (v.heap.push o)[i]? = some x
    rw [Array.getElem?_push, if_neg (Nat.ne_of_lt hlt), hi]
  have z1 := z w o0 _ rfl
  have z2 := z _ o1 _ z1
  have z3 := z _ o2 _ z2
  have z4 := z _ o3 _ z3
  rw [h]
  exact ⟨k _ _ _ _ (k _ _ _ _ (k _ _ _ _ (k _ _ _ _ (n _ _ _ rfl)))), k _ _ _ _ (k _ _ _ _ (k _ _ _ _ (n _ _ _ z1))), k _ _ _ _ (k _ _ _ _ (n _ _ _ z2)), k _ _ _ _ (n _ _ _ z3), n _ _ _ z4, h ▸ h5⟩
end Go.Proofs.Ytbbacmlcimgjbaa
