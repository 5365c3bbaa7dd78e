/-
  What came in, in chapter 20's statements: readings, rows of calls, rows of ways.
-/
import Derived.Test.YtbbacmlcimgjbaaAgArgs
namespace Go.Proofs.Ytbbacmlcimgjbaa
open Go.RowKit
theorem u8_nat {a : Int} (h : (Lit.int .u8 a).wf = true) : ∃ n : Nat, a = n ∧ n < 256 := by have := bounds_u8 h; exact ⟨a.toNat, by omega, by omega⟩
theorem u32_nat {a : Int} (h : (Lit.int .u32 a).wf = true) : ∃ n : Nat, a = n ∧ n < 4294967296 := by have := bounds_u32 h; exact ⟨a.toNat, by omega, by omega⟩
theorem u64_nat {a : Int} (h : (Lit.int .u64 a).wf = true) : ∃ n : Nat, a = n ∧ n < 18446744073709551616 := by have := bounds_u64 h; exact ⟨a.toNat, by omega, by omega⟩

theorem cmd_of {w : World} {cs : List Value} (h : Rd Try.prog w 70 cs) : ∃ (k : Nat) (n : Int), cs = [.int .u8 (k : Int), .int .i64 n] ∧ k < 256 ∧ -9223372036854775808 ≤ n ∧ n ≤ 9223372036854775807 := by
  obtain ⟨hl, hf⟩ := h.fields (L := [(5, 0), (3, 1)]) (by kernel_rfl) (by kernel_rfl)
  rw [show Try.prog.cellsOf 70 = 2 by kernel_rfl] at hl
  match cs, hl with
  | [x, y], _ =>
    have h0 := hf (5, 0) (by simp)
    have h1 := hf (3, 1) (by simp)
    simp only [show Try.prog.cellsOf 5 = 1 by kernel_rfl, show Try.prog.cellsOf 3 = 1 by kernel_rfl] at h0 h1
    obtain ⟨a, ha, wa⟩ := h0.int Try.underlying5
    obtain ⟨b, hb, wb⟩ := h1.int Try.underlying3
    simp at ha hb
    obtain ⟨k, rfl, hk⟩ := u8_nat wa
    have := bounds_i64 wb
    exact ⟨k, b, by rw [ha, hb], hk, this.1, by omega⟩
theorem cmds_of {w : World} {a : Option Addr} {len cap : Nat} (h : Rd Try.prog w 31 [.slice a len cap]) : ∃ l : List (Nat × Int), l.length = len ∧ len ≤ maxLen ∧ CmdsAt w a l ∧ (a = none → cap = 0) := by
  rcases h.slice Try.underlying31 with h | ⟨x, n, c, h, hlc, hcm, hel⟩
  · simp only [List.cons.injEq, Value.slice.injEq, and_true] at h
    obtain ⟨rfl, rfl, rfl⟩ := h
    exact ⟨[], rfl, Nat.zero_le _, ⟨by simp, .inl rfl⟩, fun _ => rfl⟩
  · simp only [List.cons.injEq, Value.slice.injEq, and_true] at h
    obtain ⟨rfl, rfl, rfl⟩ := h
    have hsz : Try.prog.cellsOf 70 = 2 := by kernel_rfl
    have H : ∀ i, i < len → ∃ c : Nat × Int, (c.1 < 256 ∧ -9223372036854775808 ≤ c.2 ∧ c.2 ≤ 9223372036854775807) ∧ w.cell? ((x.add (i * 2)).add 0) = some (.int .u8 (c.1 : Int)) ∧ w.cell? ((x.add (i * 2)).add 1) = some (.int .i64 c.2) := by
      intro i hi
      obtain ⟨ecs, he, hr⟩ := hel i (by omega)
      rw [hsz] at he
      obtain ⟨k, n, rfl, hk, hn1, hn2⟩ := cmd_of hr
      obtain ⟨_, hg⟩ := cells_get he
      obtain ⟨v0, g0, c0⟩ := hg 0 (by omega)
      obtain ⟨v1, g1, c1⟩ := hg 1 (by omega)
      simp at g0 g1
      subst g0; subst g1
      exact ⟨(k, n), ⟨hk, hn1, hn2⟩, c0, c1⟩
    obtain ⟨l, hl, hq⟩ := list_of len H
    refine ⟨l, hl, Nat.le_trans hlc hcm, ⟨fun c hc => ?_, ?_⟩, fun h => by cases h⟩
    · obtain ⟨i, hi⟩ := List.getElem?_of_mem hc
      exact (hq i c hi).1
    · rcases l with _ | ⟨c0, l⟩
      · exact .inl rfl
      · right
        have h0 := (hq 0 c0 rfl).2.1
        have hs : x.spot = none := World.cell?_spot (show w.cell? x = some _ by simpa [Addr.add] using h0)
        obtain ⟨b, off, spot⟩ := x
        subst hs
        refine ⟨b, off, rfl, fun i c hi => ?_⟩
        obtain ⟨_, q1, q2⟩ := hq i c hi
        simp only [Addr.add_lit, Nat.add_zero] at q1 q2
        exact ⟨q1, q2⟩
theorem input_cells {w : World} {cs : List Value} (h : Rd Try.prog w 33 cs) : ∃ (I : In) (a : Option Addr) (cap : Nat), cs = [.int .u64 (I.o : Int), .int .u32 (I.n : Int), .int .u32 (I.r : Int), .slice a I.c.length cap] ∧ LongAt w a cap I := by
  obtain ⟨hl, hf⟩ := h.fields (L := [(29, 0), (30, 1), (30, 2), (31, 3)]) (by kernel_rfl) (by kernel_rfl)
  rw [show Try.prog.cellsOf 33 = 4 by kernel_rfl] at hl
  match cs, hl with
  | [x, y, z, t], _ =>
    have h0 := hf (29, 0) (by simp)
    have h1 := hf (30, 1) (by simp)
    have h2 := hf (30, 2) (by simp)
    have h3 := hf (31, 3) (by simp)
    simp only [show Try.prog.cellsOf 29 = 1 by kernel_rfl, show Try.prog.cellsOf 30 = 1 by kernel_rfl, show Try.prog.cellsOf 31 = 1 by kernel_rfl] at h0 h1 h2 h3
    obtain ⟨o, ho, wo⟩ := h0.int Try.underlying29
    obtain ⟨n, hn, wn⟩ := h1.int Try.underlying30
    obtain ⟨r, hr, wr⟩ := h2.int Try.underlying30
    have hsl := h3.slice Try.underlying31
    simp at ho hn hr
    subst ho; subst hn; subst hr
    obtain ⟨o, rfl, ho⟩ := u64_nat wo
    obtain ⟨n, rfl, hn⟩ := u32_nat wn
    obtain ⟨r, rfl, hr⟩ := u32_nat wr
    have hform : ∃ a len cap, t = .slice a len cap := by
      rcases hsl with h | ⟨x, n, c, h, _⟩
      · simp at h; exact ⟨_, _, _, h⟩
      · simp at h; exact ⟨_, _, _, h⟩
    obtain ⟨a, len, cap, rfl⟩ := hform
    obtain ⟨l, hl1, hl2, hl3, hl4⟩ := cmds_of (a := a) (len := len) (cap := cap) (by simpa using h3)
    refine ⟨⟨o, n, r, l⟩, a, cap, by rw [← hl1], ?_⟩
    unfold LongAt
    exact ⟨⟨ho, hn, hr, by rw [hl1]; exact hl2⟩, hl3, hl4⟩
theorem reading_cells {w : World} {cs : List Value} (h : Rd Try.prog w 35 cs) : ∃ (ch cy : Int) (I : In) (a : Option Addr) (cap : Nat), cs = [.int .i64 ch, .int .i64 cy, .int .u64 (I.o : Int), .int .u32 (I.n : Int), .int .u32 (I.r : Int), .slice a I.c.length cap] ∧ LongAt w a cap I := by
  obtain ⟨hl, hf⟩ := h.fields (L := [(3, 0), (2, 1), (33, 2)]) (by kernel_rfl) (by kernel_rfl)
  rw [show Try.prog.cellsOf 35 = 6 by kernel_rfl] at hl
  match cs, hl with
  | [x, y, z, t, u, v], _ =>
    have h0 := hf (3, 0) (by simp)
    have h1 := hf (2, 1) (by simp)
    have h2 := hf (33, 2) (by simp)
    simp only [show Try.prog.cellsOf 3 = 1 by kernel_rfl, show Try.prog.cellsOf 2 = 1 by kernel_rfl, show Try.prog.cellsOf 33 = 4 by kernel_rfl] at h0 h1 h2
    obtain ⟨ch, ho, _⟩ := h0.int Try.underlying3
    obtain ⟨cy, hn, _⟩ := h1.int Try.underlying2
    obtain ⟨I, a, cap, hc, hI⟩ := input_cells h2
    simp at ho hn hc
    obtain ⟨rfl, rfl, rfl, rfl⟩ := hc
    subst ho; subst hn
    exact ⟨ch, cy, I, a, cap, rfl, hI⟩
theorem cal_cells {w : World} {cs : List Value} (h : Rd Try.prog w 38 cs) : ∃ c : Cal, cs = [.int .i64 c.k, .int .i64 c.ch, .int .i64 c.cy, .int .u64 (c.I.o : Int), .int .u32 (c.I.n : Int), .int .u32 (c.I.r : Int), .slice c.a c.I.c.length c.cap] ∧ LongAt w c.a c.cap c.I := by
  obtain ⟨hl, hf⟩ := h.fields (L := [(3, 0), (35, 1)]) (by kernel_rfl) (by kernel_rfl)
  rw [show Try.prog.cellsOf 38 = 7 by kernel_rfl] at hl
  match cs, hl with
  | [k, x, y, z, t, u, v], _ =>
    have h0 := hf (3, 0) (by simp)
    have h2 := hf (35, 1) (by simp)
    simp only [show Try.prog.cellsOf 3 = 1 by kernel_rfl, show Try.prog.cellsOf 35 = 6 by kernel_rfl] at h0 h2
    obtain ⟨kk, ho, _⟩ := h0.int Try.underlying3
    obtain ⟨ch, cy, I, a, cap, hc, hI⟩ := reading_cells h2
    simp at ho hc
    obtain ⟨rfl, rfl, rfl, rfl, rfl, rfl⟩ := hc
    subst ho
    exact ⟨⟨kk, ch, cy, I, a, cap⟩, rfl, hI⟩
/-- a way: its kind, its side, its number, its input -/
structure Wy where
  k : Int
  s : Int
  n : Int
  I : In
  a : Option Addr
  cap : Nat
theorem way_cells {w : World} {cs : List Value} (h : Rd Try.prog w 64 cs) : ∃ c : Wy, cs = [.int .i64 c.k, .int .i64 c.s, .int .i64 c.n, .int .u64 (c.I.o : Int), .int .u32 (c.I.n : Int), .int .u32 (c.I.r : Int), .slice c.a c.I.c.length c.cap] ∧ LongAt w c.a c.cap c.I := by
  obtain ⟨hl, hf⟩ := h.fields (L := [(3, 0), (3, 1), (3, 2), (33, 3)]) (by kernel_rfl) (by kernel_rfl)
  rw [show Try.prog.cellsOf 64 = 7 by kernel_rfl] at hl
  match cs, hl with
  | [k, x, y, z, t, u, v], _ =>
    have h0 := hf (3, 0) (by simp)
    have h1 := hf (3, 1) (by simp)
    have h2 := hf (3, 2) (by simp)
    have h3 := hf (33, 3) (by simp)
    simp only [show Try.prog.cellsOf 3 = 1 by kernel_rfl, show Try.prog.cellsOf 33 = 4 by kernel_rfl] at h0 h1 h2 h3
    obtain ⟨k0, ho, _⟩ := h0.int Try.underlying3
    obtain ⟨k1, hp, _⟩ := h1.int Try.underlying3
    obtain ⟨k2, hq, _⟩ := h2.int Try.underlying3
    obtain ⟨I, a, cap, hc, hI⟩ := input_cells h3
    simp at ho hp hq hc
    obtain ⟨rfl, rfl, rfl, rfl⟩ := hc
    subst ho; subst hp; subst hq
    exact ⟨⟨k0, k1, k2, I, a, cap⟩, rfl, hI⟩
def WaysAt (w : World) (a : Option Addr) (l : List Wy) : Prop := (∀ c ∈ l, LongAt w c.a c.cap c.I) ∧ (l = [] ∨ ∃ b off, a = some ⟨b, off, none⟩ ∧ ∀ i c, l[i]? = some c →
  w.cell? ⟨b, off + i * 7, none⟩ = some (.int .i64 c.k) ∧ w.cell? ⟨b, off + i * 7 + 1, none⟩ = some (.int .i64 c.s) ∧ w.cell? ⟨b, off + i * 7 + 2, none⟩ = some (.int .i64 c.n) ∧
  w.cell? ⟨b, off + i * 7 + 3, none⟩ = some (.int .u64 (c.I.o : Int)) ∧ w.cell? ⟨b, off + i * 7 + 4, none⟩ = some (.int .u32 (c.I.n : Int)) ∧ w.cell? ⟨b, off + i * 7 + 5, none⟩ = some (.int .u32 (c.I.r : Int)) ∧
  w.cell? ⟨b, off + i * 7 + 6, none⟩ = some (.slice c.a c.I.c.length c.cap))
theorem WaysAt.below {w w' : World} {a : Option Addr} {l : List Wy} (hb : Below w.heap.size w w') (h : WaysAt w a l) : WaysAt w' a l := by
  refine ⟨fun c hc => (h.1 c hc).below hb, h.2.imp id ?_⟩
  rintro ⟨b, off, rfl, hc⟩
  refine ⟨b, off, rfl, fun i c hi => ?_⟩
  obtain ⟨h0, h1, h2, h3, h4, h5, h6⟩ := hc i c hi
  exact ⟨cell_later hb h0, cell_later hb h1, cell_later hb h2, cell_later hb h3, cell_later hb h4, cell_later hb h5, cell_later hb h6⟩
theorem cals_of {w : World} {a : Option Addr} {len cap : Nat} (h : Rd Try.prog w 22 [.slice a len cap]) : ∃ l : List Cal, l.length = len ∧ len ≤ maxLen ∧ CalsAt w a l := by
  rcases h.slice Try.underlying22 with h | ⟨x, n, c, h, hlc, hcm, hel⟩
  · simp only [List.cons.injEq, Value.slice.injEq, and_true] at h
    obtain ⟨rfl, rfl, rfl⟩ := h
    exact ⟨[], rfl, Nat.zero_le _, by simp, .inl rfl⟩
  · simp only [List.cons.injEq, Value.slice.injEq, and_true] at h
    obtain ⟨rfl, rfl, rfl⟩ := h
    have hsz : Try.prog.cellsOf 38 = 7 := by kernel_rfl
    have H : ∀ i, i < len → ∃ c : Cal, LongAt w c.a c.cap c.I ∧ w.cell? ((x.add (i * 7)).add 0) = some (.int .i64 c.k) ∧ w.cell? ((x.add (i * 7)).add 1) = some (.int .i64 c.ch) ∧ w.cell? ((x.add (i * 7)).add 2) = some (.int .i64 c.cy) ∧ w.cell? ((x.add (i * 7)).add 3) = some (.int .u64 (c.I.o : Int)) ∧ w.cell? ((x.add (i * 7)).add 4) = some (.int .u32 (c.I.n : Int)) ∧ w.cell? ((x.add (i * 7)).add 5) = some (.int .u32 (c.I.r : Int)) ∧ w.cell? ((x.add (i * 7)).add 6) = some (.slice c.a c.I.c.length c.cap) := by
      intro i hi
      obtain ⟨ecs, he, hr⟩ := hel i (by omega)
      rw [hsz] at he
      obtain ⟨c, rfl, hc⟩ := cal_cells hr
      obtain ⟨_, hg⟩ := cells_get he
      obtain ⟨v0, g0, c0⟩ := hg 0 (by omega)
      obtain ⟨v1, g1, c1⟩ := hg 1 (by omega)
      obtain ⟨v2, g2, c2⟩ := hg 2 (by omega)
      obtain ⟨v3, g3, c3⟩ := hg 3 (by omega)
      obtain ⟨v4, g4, c4⟩ := hg 4 (by omega)
      obtain ⟨v5, g5, c5⟩ := hg 5 (by omega)
      obtain ⟨v6, g6, c6⟩ := hg 6 (by omega)
      simp at g0 g1 g2 g3 g4 g5 g6
      subst g0 g1 g2 g3 g4 g5 g6
      exact ⟨c, hc, c0, c1, c2, c3, c4, c5, c6⟩
    obtain ⟨l, hl, hq⟩ := list_of len H
    refine ⟨l, hl, Nat.le_trans hlc hcm, fun c hc => ?_, ?_⟩
    · obtain ⟨i, hi⟩ := List.getElem?_of_mem hc
      exact (hq i c hi).1
    · rcases l with _ | ⟨c0, l⟩
      · exact .inl rfl
      · right
        have h0 := (hq 0 c0 rfl).2.1
        have hs : x.spot = none := World.cell?_spot (show w.cell? x = some _ by simpa [Addr.add] using h0)
        obtain ⟨b, off, spot⟩ := x
        subst hs
        refine ⟨b, off, rfl, fun i c hi => ?_⟩
        obtain ⟨_, this⟩ := hq i c hi
        simpa only [Addr.add_lit, Nat.add_zero] using this
theorem ways_of {w : World} {a : Option Addr} {len cap : Nat} (h : Rd Try.prog w 58 [.slice a len cap]) : ∃ l : List Wy, l.length = len ∧ len ≤ maxLen ∧ WaysAt w a l := by
  rcases h.slice Try.underlying58 with h | ⟨x, n, c, h, hlc, hcm, hel⟩
  · simp only [List.cons.injEq, Value.slice.injEq, and_true] at h
    obtain ⟨rfl, rfl, rfl⟩ := h
    exact ⟨[], rfl, Nat.zero_le _, by simp, .inl rfl⟩
  · simp only [List.cons.injEq, Value.slice.injEq, and_true] at h
    obtain ⟨rfl, rfl, rfl⟩ := h
    have hsz : Try.prog.cellsOf 64 = 7 := by kernel_rfl
    have H : ∀ i, i < len → ∃ c : Wy, LongAt w c.a c.cap c.I ∧ w.cell? ((x.add (i * 7)).add 0) = some (.int .i64 c.k) ∧ w.cell? ((x.add (i * 7)).add 1) = some (.int .i64 c.s) ∧ w.cell? ((x.add (i * 7)).add 2) = some (.int .i64 c.n) ∧ w.cell? ((x.add (i * 7)).add 3) = some (.int .u64 (c.I.o : Int)) ∧ w.cell? ((x.add (i * 7)).add 4) = some (.int .u32 (c.I.n : Int)) ∧ w.cell? ((x.add (i * 7)).add 5) = some (.int .u32 (c.I.r : Int)) ∧ w.cell? ((x.add (i * 7)).add 6) = some (.slice c.a c.I.c.length c.cap) := by
      intro i hi
      obtain ⟨ecs, he, hr⟩ := hel i (by omega)
      rw [hsz] at he
      obtain ⟨c, rfl, hc⟩ := way_cells hr
      obtain ⟨_, hg⟩ := cells_get he
      obtain ⟨v0, g0, c0⟩ := hg 0 (by omega)
      obtain ⟨v1, g1, c1⟩ := hg 1 (by omega)
      obtain ⟨v2, g2, c2⟩ := hg 2 (by omega)
      obtain ⟨v3, g3, c3⟩ := hg 3 (by omega)
      obtain ⟨v4, g4, c4⟩ := hg 4 (by omega)
      obtain ⟨v5, g5, c5⟩ := hg 5 (by omega)
      obtain ⟨v6, g6, c6⟩ := hg 6 (by omega)
      simp at g0 g1 g2 g3 g4 g5 g6
      subst g0 g1 g2 g3 g4 g5 g6
      exact ⟨c, hc, c0, c1, c2, c3, c4, c5, c6⟩
    obtain ⟨l, hl, hq⟩ := list_of len H
    refine ⟨l, hl, Nat.le_trans hlc hcm, fun c hc => ?_, ?_⟩
    · obtain ⟨i, hi⟩ := List.getElem?_of_mem hc
      exact (hq i c hi).1
    · rcases l with _ | ⟨c0, l⟩
      · exact .inl rfl
      · right
        have h0 := (hq 0 c0 rfl).2.1
        have hs : x.spot = none := World.cell?_spot (show w.cell? x = some _ by simpa [Addr.add] using h0)
        obtain ⟨b, off, spot⟩ := x
        subst hs
        refine ⟨b, off, rfl, fun i c hi => ?_⟩
        obtain ⟨_, this⟩ := hq i c hi
        simpa only [Addr.add_lit, Nat.add_zero] using this
end Go.Proofs.Ytbbacmlcimgjbaa
