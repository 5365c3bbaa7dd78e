/-
  SwitchoverFences: what lies in memory; no program in sight.
-/
import Derived.Test.YtoedipajcmmhjaaSwP
import Derived.Test.YtoedipajcmmhjaaSwE
namespace Go.Proofs.Ytoedipajcmmhjaa
open Go.RowKit

/-- the clocks, the switches, their row, the book, the epochs in which each was Active last -/
structure SwW (w0 w : World) (SL ga gb SS BK LF : Nat) (d0 d1 E H U l0 l1 : Int) (s0 s1 : Sw) : Prop where
  slow : w.heap[SL]? = some (.cells #[.int .i64 d0, .int .i64 d1] 2)
  a : SwAt w ga s0
  b : SwAt w gb s1
  ptrs : w.heap[SS]? = some (.cells #[.pointer (some ⟨ga, 0, none⟩), .pointer (some ⟨gb, 0, none⟩)] 25)
  book : w.heap[BK]? = some (.cells #[.int .i64 E, .int .i64 H, .int .i64 U] 31)
  left : w.heap[LF]? = some (.cells #[.int .i64 l0, .int .i64 l1] 2)
  o1 : w0.heap.size ≤ SL
  o2 : SL < ga
  o3 : ga < gb
  o4 : gb < SS
  o5 : SS < BK
  o6 : BK < LF
  below : Below w0.heap.size w0 w
variable {w0 w w' : World} {SL ga gb SS BK LF : Nat} {d0 d1 E H U l0 l1 : Int} {s0 s1 : Sw}
theorem SwW.step (h : SwW w0 w SL ga gb SS BK LF d0 d1 E H U l0 l1 s0 s1) (hb : Below w.heap.size w w') : SwW w0 w' SL ga gb SS BK LF d0 d1 E H U l0 l1 s0 s1 :=
  ⟨blk_keep hb h.slow, h.a.below hb, h.b.below hb, blk_keep hb h.ptrs, blk_keep hb h.book, blk_keep hb h.left, h.o1, h.o2, h.o3, h.o4, h.o5, h.o6, h.below.trans (hb.mono h.below.size)⟩
theorem SwW.a_set {s0' : Sw} (h : SwW w0 w SL ga gb SS BK LF d0 d1 E H U l0 l1 s0 s1) (ho : Only ga w w') (hs : SwAt w' ga s0') : SwW w0 w' SL ga gb SS BK LF d0 d1 E H U l0 l1 s0' s1 := by
  obtain ⟨x1, x2, x3, x4, x5, x6, o1, o2, o3, o4, o5, o6, bl⟩ := h
  exact ⟨ho.keep (by omega) x1, hs, ho.keep (by omega) x3, ho.keep (by omega) x4, ho.keep (by omega) x5, ho.keep (by omega) x6, o1, o2, o3, o4, o5, o6, Only.below bl (by omega) bl.size ho⟩
theorem SwW.b_set {s1' : Sw} (h : SwW w0 w SL ga gb SS BK LF d0 d1 E H U l0 l1 s0 s1) (ho : Only gb w w') (hs : SwAt w' gb s1') : SwW w0 w' SL ga gb SS BK LF d0 d1 E H U l0 l1 s0 s1' := by
  obtain ⟨x1, x2, x3, x4, x5, x6, o1, o2, o3, o4, o5, o6, bl⟩ := h
  exact ⟨ho.keep (by omega) x1, ho.keep (by omega) x2, hs, ho.keep (by omega) x4, ho.keep (by omega) x5, ho.keep (by omega) x6, o1, o2, o3, o4, o5, o6, Only.below bl (by omega) bl.size ho⟩
theorem sw_only_set3 (g : Nat) (w : World) (x y z : Value) : Only g w (((w.setCell ⟨g, 0, none⟩ x).setCell ⟨g, 1, none⟩ y).setCell ⟨g, 2, none⟩ z) := (((Only.refl g w).setCell rfl _).setCell rfl _).setCell rfl _
theorem SwW.book_set (h : SwW w0 w SL ga gb SS BK LF d0 d1 E H U l0 l1 s0 s1) (E' H' U' : Int) : SwW w0 (((w.setCell ⟨BK, 0, none⟩ (.int .i64 E')).setCell ⟨BK, 1, none⟩ (.int .i64 H')).setCell ⟨BK, 2, none⟩ (.int .i64 U')) SL ga gb SS BK LF d0 d1 E' H' U' l0 l1 s0 s1 := by
  obtain ⟨x1, x2, x3, x4, x5, x6, o1, o2, o3, o4, o5, o6, bl⟩ := h
  have ho := sw_only_set3 BK w (.int .i64 E') (.int .i64 H') (.int .i64 U')
  exact ⟨ho.keep (by omega) x1, ho.keep (by omega) x2, ho.keep (by omega) x3, ho.keep (by omega) x4, blk_set (blk_set (blk_set x5 0 _) 1 _) 2 _, ho.keep (by omega) x6, o1, o2, o3, o4, o5, o6, Only.below bl (by omega) bl.size ho⟩
theorem SwW.left0 (h : SwW w0 w SL ga gb SS BK LF d0 d1 E H U l0 l1 s0 s1) (x : Int) : SwW w0 (w.setCell ⟨LF, 0, none⟩ (.int .i64 x)) SL ga gb SS BK LF d0 d1 E H U x l1 s0 s1 := by
  obtain ⟨x1, x2, x3, x4, x5, x6, o1, o2, o3, o4, o5, o6, bl⟩ := h
  have ho : Only LF w (w.setCell ⟨LF, 0, none⟩ (.int .i64 x)) := (Only.refl LF w).setCell rfl _
  exact ⟨ho.keep (by omega) x1, ho.keep (by omega) x2, ho.keep (by omega) x3, ho.keep (by omega) x4, ho.keep (by omega) x5, blk_set x6 0 _, o1, o2, o3, o4, o5, o6, Only.below bl (by omega) bl.size ho⟩
theorem SwW.left1 (h : SwW w0 w SL ga gb SS BK LF d0 d1 E H U l0 l1 s0 s1) (x : Int) : SwW w0 (w.setCell ⟨LF, 1, none⟩ (.int .i64 x)) SL ga gb SS BK LF d0 d1 E H U l0 x s0 s1 := by
  obtain ⟨x1, x2, x3, x4, x5, x6, o1, o2, o3, o4, o5, o6, bl⟩ := h
  have ho : Only LF w (w.setCell ⟨LF, 1, none⟩ (.int .i64 x)) := (Only.refl LF w).setCell rfl _
  exact ⟨ho.keep (by omega) x1, ho.keep (by omega) x2, ho.keep (by omega) x3, ho.keep (by omega) x4, ho.keep (by omega) x5, blk_set x6 1 _, o1, o2, o3, o4, o5, o6, Only.below bl (by omega) bl.size ho⟩
theorem SwW.cells (h : SwW w0 w SL ga gb SS BK LF d0 d1 E H U l0 l1 s0 s1) :
    (w.cell? ⟨SL, 0, none⟩ = some (.int .i64 d0) ∧ w.cell? ⟨SL, 1, none⟩ = some (.int .i64 d1)) ∧
    (w.cell? ⟨SS, 0, none⟩ = some (.pointer (some ⟨ga, 0, none⟩)) ∧ w.cell? ⟨SS, 1, none⟩ = some (.pointer (some ⟨gb, 0, none⟩))) ∧
    (w.cell? ⟨BK, 0, none⟩ = some (.int .i64 E) ∧ w.cell? ⟨BK, 1, none⟩ = some (.int .i64 H) ∧ w.cell? ⟨BK, 2, none⟩ = some (.int .i64 U)) ∧
    (w.cell? ⟨LF, 0, none⟩ = some (.int .i64 l0) ∧ w.cell? ⟨LF, 1, none⟩ = some (.int .i64 l1)) :=
  ⟨⟨blk_cell h.slow 0 _ rfl, blk_cell h.slow 1 _ rfl⟩, ⟨blk_cell h.ptrs 0 _ rfl, blk_cell h.ptrs 1 _ rfl⟩, ⟨blk_cell h.book 0 _ rfl, blk_cell h.book 1 _ rfl, blk_cell h.book 2 _ rfl⟩, ⟨blk_cell h.left 0 _ rfl, blk_cell h.left 1 _ rfl⟩⟩
theorem size_alloc (w : World) (o : Obj) : (w.alloc o).heap.size = w.heap.size + 1 := by show (w.heap.push o).size = _; simp
theorem sw_start {w w1 w2 w3 W : World} {d0 d1 : Int} {s0 s1 : Sw} (hb1 : Below (w.alloc (.cells #[.int .i64 d0, .int .i64 d1] 2)).heap.size (w.alloc (.cells #[.int .i64 d0, .int .i64 d1] 2)) w1) (ha1 : SwAt w1 (w.alloc (.cells #[.int .i64 d0, .int .i64 d1] 2)).heap.size s0)
    (hb2 : Below w1.heap.size w1 w2) (ha2 : SwAt w2 w1.heap.size s1) (hb3 : Below (w2.alloc (.cells #[.pointer (some ⟨w.heap.size + 1, 0, none⟩), .pointer (some ⟨w1.heap.size, 0, none⟩)] 25)).heap.size (w2.alloc (.cells #[.pointer (some ⟨w.heap.size + 1, 0, none⟩), .pointer (some ⟨w1.heap.size, 0, none⟩)] 25)) w3)
    (hW : W = (w3.alloc (.cells #[.int .i64 0, .int .i64 (-1), .int .i64 0] 31)).alloc (.cells #[.int .i64 0, .int .i64 0] 2)) :
    SwW w W w.heap.size (w.heap.size + 1) w1.heap.size w2.heap.size w3.heap.size (w3.heap.size + 1) d0 d1 0 (-1) 0 0 0 s0 s1 := by
  have p0 := alloc1 w _ hb1
  have p3 := alloc1 w2 _ hb3
  rw [size_alloc] at ha1
  obtain ⟨p4, p5⟩ := alloc2' w3 (.cells #[.int .i64 0, .int .i64 (-1), .int .i64 0] 31) (.cells #[.int .i64 0, .int .i64 0] 2)
  have bw := below2' w3 (.cells #[.int .i64 0, .int .i64 (-1), .int .i64 0] 31) (.cells #[.int .i64 0, .int .i64 0] 2)
  rw [← hW] at p4 p5 bw
  have B1 := below_on (below1 w (.cells #[.int .i64 d0, .int .i64 d1] 2)) hb1
  have B3 := below_on (below1 w2 _) hb3
  have B2W := below_on B3 bw
  have B1W := below_on hb2 B2W
  have z1 := blk_lt ha1
  have z2 := blk_lt ha2
  have z3 := blk_lt p3
  exact ⟨blk_keep B1W p0, ha1.below B1W, ha2.below B2W, blk_keep bw p3, p4, p5, Nat.le_refl _, Nat.lt_succ_self _, z1, z2, z3, Nat.lt_succ_self _, below_on B1 B1W⟩
end Go.Proofs.Ytoedipajcmmhjaa
