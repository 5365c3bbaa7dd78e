/-
  The walk of the closed statement InputsKnown of chapter 9.
-/
import Derived.Test.YtgepflelaemmnaaInKRight
import Derived.Test.YtgepflelaemmnaaInKSame
import Derived.Test.YtgepflelaemmnaaInKMerge
import Derived.Test.YtgepflelaemmnaaInKSafe
import Derived.Deep.DeepCutAuto
import Derived.Deep.CutBlock
import Derived.Deep.LoopGhost
import Derived.Laws.MakeOwn
import Derived.Test.YtgepflelaemmnaaCalm
namespace Go.Proofs.Ytgepflelaemmnaa
open Go.RowKit

/-- a layout's lengths lie in block g -/
def LensAt (w : World) (g : Nat) (t : TypeId) (s p q r : Nat) : Prop := ∃ a1 a2 a3 a4 c1 c2 c3 c4, w.heap[g]? = some (.cells #[.slice a1 s c1, .slice a2 p c2, .slice a3 q c3, .slice a4 r c4] t)
theorem made (P : Program) (t e : TypeId) (i : TypeInfo) (z : Value) (ht : P.underlying t = some (.slice e)) (hi : P.info? e = some i) (hz : i.zero = some z) (n : Nat) (hn : n ≤ 100) (hs : i.size ≤ 100) (hb : i.bytes ≤ 1000) :
    ∃ O : Obj, ∀ w, (Instr.makeSlice t (.int .i64 (n : Int)) (.int .i64 (n : Int))).run P w = .ok (.slice (some ⟨w.heap.size, 0, none⟩) n n) (w.alloc O) := by
  refine ⟨.cells (madeCells z.cells (n * i.size)) e, fun w => ?_⟩
  have h1 : n * i.size ≤ 100 * 100 := Nat.mul_le_mul hn hs
  have h2 : i.bytes * n ≤ 1000 * 100 := Nat.mul_le_mul hb hn
  have h3 : ((i.bytes * n : Nat) : Int) = (i.bytes : Int) * (n : Int) := Int.natCast_mul _ _
  have := run_makeSlice (P := P) (w := w) t e i z ht hi hz .i64 .i64 (n : Int) (n : Int) (by omega) (by omega) (by simp; omega) (by omega) (by omega)
  simpa using this
theorem al2 (w : World) (A B : Obj) : ((w.alloc A).alloc B).heap[w.heap.size]? = some A ∧ ((w.alloc A).alloc B).heap[w.heap.size + 1]? = some B := alloc2' w A B
theorem al4 (w : World) (A B C D : Obj) : ((((w.alloc A).alloc B).alloc C).alloc D).heap[w.heap.size]? = some A ∧ ((((w.alloc A).alloc B).alloc C).alloc D).heap[w.heap.size + 1]? = some B ∧ ((((w.alloc A).alloc B).alloc C).alloc D).heap[w.heap.size + 1 + 1]? = some C ∧ ((((w.alloc A).alloc B).alloc C).alloc D).heap[w.heap.size + 1 + 1 + 1]? = some D := by
  have h1 := al2 w A B
  have h2 := al2 ((w.alloc A).alloc B) C D
  rw [World.size_alloc, World.size_alloc] at h2
  have hb : Below ((w.alloc A).alloc B).heap.size ((w.alloc A).alloc B) ((((w.alloc A).alloc B).alloc C).alloc D) := below2' _ _ _
  exact ⟨blk_keep hb h1.1, blk_keep hb h1.2, h2.1, h2.2⟩
theorem al11 (W w : World) (A0 A1 A2 A3 A4 A5 A6 A7 A8 A9 A10 : Obj) (h : W = (((((((((((w.alloc A0).alloc A1).alloc A2).alloc A3).alloc A4).alloc A5).alloc A6).alloc A7).alloc A8).alloc A9).alloc A10)) : (W.heap[w.heap.size]? = some A0 ∧ W.heap[w.heap.size + 1]? = some A1 ∧ W.heap[w.heap.size + 1 + 1]? = some A2 ∧ W.heap[w.heap.size + 1 + 1 + 1]? = some A3 ∧ W.heap[w.heap.size + 1 + 1 + 1 + 1]? = some A4 ∧ W.heap[w.heap.size + 1 + 1 + 1 + 1 + 1]? = some A5 ∧ W.heap[w.heap.size + 1 + 1 + 1 + 1 + 1 + 1]? = some A6 ∧ W.heap[w.heap.size + 1 + 1 + 1 + 1 + 1 + 1 + 1]? = some A7 ∧ W.heap[w.heap.size + 1 + 1 + 1 + 1 + 1 + 1 + 1 + 1]? = some A8 ∧ W.heap[w.heap.size + 1 + 1 + 1 + 1 + 1 + 1 + 1 + 1 + 1]? = some A9 ∧ W.heap[w.heap.size + 1 + 1 + 1 + 1 + 1 + 1 + 1 + 1 + 1 + 1]? = some A10) ∧ Below w.heap.size w W := by
  subst h
  have h1 := al4 w A0 A1 A2 A3
  have h2 := al4 ((((w.alloc A0).alloc A1).alloc A2).alloc A3) A4 A5 A6 A7
  have h3 := alloc3' ((((((((w.alloc A0).alloc A1).alloc A2).alloc A3).alloc A4).alloc A5).alloc A6).alloc A7) A8 A9 A10
  have b1 := below4 w A0 A1 A2 A3
  have b2 := below4 ((((w.alloc A0).alloc A1).alloc A2).alloc A3) A4 A5 A6 A7
  have b3 := below3 ((((((((w.alloc A0).alloc A1).alloc A2).alloc A3).alloc A4).alloc A5).alloc A6).alloc A7) A8 A9 A10
  simp only [World.size_alloc] at h2 h3
  have b23 := below_on b2 b3
  exact ⟨⟨blk_keep b23 h1.1, blk_keep b23 h1.2.1, blk_keep b23 h1.2.2.1, blk_keep b23 h1.2.2.2, blk_keep b3 h2.1, blk_keep b3 h2.2.1, blk_keep b3 h2.2.2.1, blk_keep b3 h2.2.2.2, h3.1, h3.2.1, h3.2.2⟩, below_on b1 b23⟩
/-- the commands of the append loop -/
def eights (k : Nat) : List (Nat × Int) := (List.range k).map fun i => (1, ((i % 5 : Nat) : Int))
theorem eights_succ (k : Nat) : eights (k + 1) = eights k ++ [(1, ((k % 5 : Nat) : Int))] := by unfold eights; rw [List.range_succ, List.map_append]; rfl
theorem eights_len (k : Nat) : (eights k).length = k := by unfold eights; simp
theorem eights_ok (k : Nat) : ∀ c ∈ eights k, c.1 < 256 ∧ -9223372036854775808 ≤ c.2 ∧ c.2 ≤ 9223372036854775807 := by
  intro c hc
  obtain ⟨i, _, rfl⟩ := List.mem_map.1 hc
  dsimp only
  omega
theorem cmdCells_append (l m : List (Nat × Int)) : cmdCells (l ++ m) = cmdCells l ++ cmdCells m := by
  induction l with
  | nil => rfl
  | cons c l ih => simp [cmdCells, ih]
theorem cmds_take {w : World} {a : Option Addr} {l : List (Nat × Int)} (h : CmdsAt w a l) (n : Nat) : CmdsAt w a (l.take n) := by
  refine ⟨fun c hc => h.1 c (List.mem_of_mem_take hc), ?_⟩
  rcases h.2 with rfl | ⟨b, off, rfl, hc⟩
  · left; simp
  · refine .inr ⟨b, off, rfl, fun i c hi => hc i c ?_⟩
    rw [List.getElem?_take] at hi
    split at hi
    · exact hi
    · cases hi
theorem name_world {P : Program} {c : Code} {Q : Exit → Act → World → Prop} {a : Act} {w : World} (h : ∀ W, W = w → c.wp P Q a W) : c.wp P Q a w := h w rfl
theorem made9 : ∃ C : Array Value, C.toList = cmdCells (List.replicate 9 (0, 0)) ∧ ∀ w, (Instr.makeSlice 30 (.int .i64 (9 : Int)) (.int .i64 (9 : Int))).run Try.prog w = .ok (.slice (some ⟨w.heap.size, 0, none⟩) 9 9) (w.alloc (.cells C 38)) := by
  obtain ⟨i0, hi, hz0, hz1, hz2⟩ := info_parts info_cmd
  refine ⟨madeCells (Value.agg #[.int .u8 0, .int .i64 0]).cells (9 * 2), by kernel_rfl, fun w => ?_⟩
  have := run_makeSlice (P := Try.prog) (w := w) 30 38 i0 (.agg #[.int .u8 0, .int .i64 0]) Try.underlying30 hi hz0 .i64 .i64 9 9 (by omega) (by omega) (by rw [hz1]; decide) (by rw [hz2]; decide) (by omega)
  rw [hz1] at this
  exact this
/-- input q of the row -/
def InAt (w : World) (g q : Nat) : Prop := ∃ (o n r : Nat) (a : Option Addr) (len ca : Nat) (la : List (Nat × Int)), w.cell? ⟨g, q * 4, none⟩ = some (.int .u64 (o : Int)) ∧ w.cell? ⟨g, q * 4 + 1, none⟩ = some (.int .u32 (n : Int)) ∧ w.cell? ⟨g, q * 4 + 2, none⟩ = some (.int .u32 (r : Int)) ∧ w.cell? ⟨g, q * 4 + 3, none⟩ = some (.slice a len ca) ∧
  o < 18446744073709551616 ∧ n < 4294967296 ∧ r < 4294967296 ∧ la.length = len ∧ len ≤ 9 ∧ CmdsAt w a la ∧ (a = none → ca = 0)
theorem InAt.below {w w' : World} {g q : Nat} (hb : Below w.heap.size w w') (h : InAt w g q) : InAt w' g q := by
  obtain ⟨o, n, r, a, len, ca, la, h1, h2, h3, h4, b1, b2, b3, b4, b5, hc, hz⟩ := h
  exact ⟨o, n, r, a, len, ca, la, cell_later hb h1, cell_later hb h2, cell_later hb h3, cell_later hb h4, b1, b2, b3, b4, b5, hc.below hb, hz⟩
theorem LensAt.below {w w' : World} {g : Nat} {t : TypeId} {s p q r : Nat} (hb : Below w.heap.size w w') (h : LensAt w g t s p q r) : LensAt w' g t s p q r := by
  obtain ⟨a1, a2, a3, a4, c1, c2, c3, c4, h⟩ := h
  exact ⟨a1, a2, a3, a4, c1, c2, c3, c4, blk_keep hb h⟩
theorem info_points : ((Try.prog.info? 51).map (fun i => (i.zero.isSome, decide (i.size ≤ 100), decide (i.bytes ≤ 1000)))) = some (true, true, true) := by kernel_rfl
theorem info_routes : ((Try.prog.info? 58).map (fun i => (i.zero.isSome, decide (i.size ≤ 100), decide (i.bytes ≤ 1000)))) = some (true, true, true) := by kernel_rfl
theorem info_strings : ((Try.prog.info? 9).map (fun i => (i.zero.isSome, decide (i.size ≤ 100), decide (i.bytes ≤ 1000)))) = some (true, true, true) := by kernel_rfl
theorem made_of {P : Program} {t e : TypeId} (ht : P.underlying t = some (.slice e)) (h : ((P.info? e).map (fun i => (i.zero.isSome, decide (i.size ≤ 100), decide (i.bytes ≤ 1000)))) = some (true, true, true)) (n : Nat) (hn : n ≤ 100) :
    ∃ O : Obj, ∀ w, (Instr.makeSlice t (.int .i64 (n : Int)) (.int .i64 (n : Int))).run P w = .ok (.slice (some ⟨w.heap.size, 0, none⟩) n n) (w.alloc O) := by
  cases hi : P.info? e with
  | none => rw [hi] at h; cases h
  | some i =>
    rw [hi] at h
    simp only [Option.map_some, Option.some.injEq, Prod.mk.injEq, decide_eq_true_eq] at h
    obtain ⟨hz, hs, hb⟩ := h
    obtain ⟨z, hz⟩ := Option.isSome_iff_exists.1 hz
    exact made P t e i z ht hi hz n hn hs hb
set_option maxRecDepth 100000 in
set_option maxHeartbeats 40000000 in
theorem walk_InputsKnown (w : World) :
    Calls Try.prog 8 #[] w fun e w' => e = .returned (.bool true) ∧ Below w.heap.size w w' := by
  obtain ⟨O1, m1⟩ : ∃ O : Obj, ∀ w, (Instr.makeSlice 22 (.int .i64 (64 : Int)) (.int .i64 (64 : Int))).run Try.prog w = .ok (.slice (some ⟨w.heap.size, 0, none⟩) 64 64) (w.alloc O) := made_of Try.underlying22 info_strings 64 (by omega)
  obtain ⟨O2, m2⟩ : ∃ O : Obj, ∀ w, (Instr.makeSlice 23 (.int .i64 (32 : Int)) (.int .i64 (32 : Int))).run Try.prog w = .ok (.slice (some ⟨w.heap.size, 0, none⟩) 32 32) (w.alloc O) := made_of Try.underlying23 info_points 32 (by omega)
  obtain ⟨O3, m3⟩ : ∃ O : Obj, ∀ w, (Instr.makeSlice 25 (.int .i64 (64 : Int)) (.int .i64 (64 : Int))).run Try.prog w = .ok (.slice (some ⟨w.heap.size, 0, none⟩) 64 64) (w.alloc O) := made_of Try.underlying25 info_routes 64 (by omega)
  obtain ⟨P1, n1⟩ : ∃ O : Obj, ∀ w, (Instr.makeSlice 22 (.int .i64 (66 : Int)) (.int .i64 (66 : Int))).run Try.prog w = .ok (.slice (some ⟨w.heap.size, 0, none⟩) 66 66) (w.alloc O) := made_of Try.underlying22 info_strings 66 (by omega)
  obtain ⟨P2, n2⟩ : ∃ O : Obj, ∀ w, (Instr.makeSlice 23 (.int .i64 (34 : Int)) (.int .i64 (34 : Int))).run Try.prog w = .ok (.slice (some ⟨w.heap.size, 0, none⟩) 34 34) (w.alloc O) := made_of Try.underlying23 info_points 34 (by omega)
  obtain ⟨P3, n3⟩ : ∃ O : Obj, ∀ w, (Instr.makeSlice 25 (.int .i64 (66 : Int)) (.int .i64 (66 : Int))).run Try.prog w = .ok (.slice (some ⟨w.heap.size, 0, none⟩) 66 66) (w.alloc O) := made_of Try.underlying25 info_routes 66 (by omega)
  obtain ⟨C9, hC9, m9⟩ := made9
  go_enter Try.func8, Try.ntmps8
  go_wp2_with fail
  refine (yard_lens _).mono ?_
  rintro e w1 ⟨⟨ya, yc, yb, yd, ye, yf, yg, yh, rfl⟩, hb1⟩
  go_upto_region 2 with fail
  have hL1 : LensAt (w1.alloc (Obj.cells #[Value.slice ya 6 yc, Value.slice yb 2 yd, Value.slice ye 3 yf, Value.slice yg 5 yh] 27)) w1.heap.size 27 6 2 3 5 := ⟨_, _, _, _, _, _, _, _, heap_new w1 _⟩
  have hB1 := below_on hb1 (below1 w1 (Obj.cells #[Value.slice ya 6 yc, Value.slice yb 2 yd, Value.slice ye 3 yf, Value.slice yg 5 yh] 27))
  obtain ⟨g1, hg1⟩ : ∃ g, g = w1.heap.size := ⟨_, rfl⟩
  obtain ⟨W1, hW1⟩ : ∃ W, W = w1.alloc (Obj.cells #[Value.slice ya 6 yc, Value.slice yb 2 yd, Value.slice ye 3 yf, Value.slice yg 5 yh] 27) := ⟨_, rfl⟩
  rw [← hW1] at hL1 hB1 ⊢
  rw [← hg1] at hL1 ⊢
  clear hW1 hg1 hb1
  go_cut [2] (fun s2 wx => ∃ g, s2 = .pointer (some ⟨g, 0, none⟩) ∧ LensAt wx g 27 64 32 0 64 ∧ Below W1.heap.size W1 wx)
  case first =>
    as_aux_lemma =>
      go_region
      all_goals go_wp2_with fail
      all_goals go_meet
      all_goals first
        | exact ⟨_, rfl, ⟨_, _, _, _, _, _, _, _, (al4 W1 _ _ _ _).1⟩, (below4 W1 _ _ _ _).drew⟩
        | exact ⟨_, rfl, ⟨_, _, _, _, _, _, _, _, (al4 W1 _ _ _ _).2.1⟩, (below4 W1 _ _ _ _).drew⟩
        | exact ⟨_, rfl, ⟨_, _, _, _, _, _, _, _, (al4 W1 _ _ _ _).2.2.1⟩, (below4 W1 _ _ _ _).drew⟩
        | exact ⟨_, rfl, ⟨_, _, _, _, _, _, _, _, (al4 W1 _ _ _ _).2.2.2⟩, (below4 W1 _ _ _ _).drew⟩
  case rest =>
    obtain ⟨g2, rfl, hg2, hB2⟩ := hcut
    have hL1' := hL1.below hB2
    have hB2' := below_on hB1 hB2
    clear hL1 hB1 hB2 m1 m2 m3
    obtain ⟨W2, hW2⟩ : ∃ W, W = wc := ⟨_, rfl⟩
    rw [← hW2] at hL1' hB2' hg2 ⊢
    clear hW2
    go_upto_region 3 with fail
    go_cut [3] (fun s2 wx => ∃ g, s2 = .pointer (some ⟨g, 0, none⟩) ∧ LensAt wx g 27 66 34 0 66 ∧ Below W2.heap.size W2 wx)
    case first =>
      as_aux_lemma =>
        go_region
        all_goals go_wp2_with fail
        all_goals go_meet
        all_goals first
          | exact ⟨_, rfl, ⟨_, _, _, _, _, _, _, _, (al4 W2 _ _ _ _).1⟩, (below4 W2 _ _ _ _).drew⟩
          | exact ⟨_, rfl, ⟨_, _, _, _, _, _, _, _, (al4 W2 _ _ _ _).2.1⟩, (below4 W2 _ _ _ _).drew⟩
          | exact ⟨_, rfl, ⟨_, _, _, _, _, _, _, _, (al4 W2 _ _ _ _).2.2.1⟩, (below4 W2 _ _ _ _).drew⟩
          | exact ⟨_, rfl, ⟨_, _, _, _, _, _, _, _, (al4 W2 _ _ _ _).2.2.2⟩, (below4 W2 _ _ _ _).drew⟩
    case rest =>
      obtain ⟨g3, rfl, hg3, hB3⟩ := hcut
      have hL1 := hL1'.below hB3
      have hL2 := hg2.below hB3
      have hB := below_on hB2' hB3
      clear hL1' hB2' hg2 hB3 n1 n2 n3
      obtain ⟨W3, hW3⟩ : ∃ W, W = wc := ⟨_, rfl⟩
      rw [← hW3] at hL1 hL2 hg3 hB ⊢
      clear hW3
      go_wp2_with fail
      refine name_world ?_
      intro W4 hW4
      obtain ⟨⟨k0, k1, k2, k3, k4, k5, k6, k7, k8, k9, k10⟩, hb4⟩ := al11 W4 W3 _ _ _ _ _ _ _ _ _ _ _ hW4
      obtain ⟨gr, hgr⟩ : ∃ g, g = W3.heap.size + 1 + 1 + 1 + 1 + 1 + 1 + 1 + 1 + 1 + 1 := ⟨_, rfl⟩
      rw [← hgr] at k10 ⊢
      have HR : Hid (∀ q, q < 17 → InAt W4 gr q) := Lib.hid (by
        intro q hq
        match q, hq with
        | 0, _ => exact ⟨0, 0, 0, none, 0, 0, [], blk_cell k10 0 _ rfl, blk_cell k10 1 _ rfl, blk_cell k10 2 _ rfl, blk_cell k10 3 _ rfl, by decide, by decide, by decide, rfl, by decide, cmds_nil _ _, fun _ => rfl⟩
        | 1, _ => exact ⟨63, 0, 0, none, 0, 0, [], blk_cell k10 4 _ rfl, blk_cell k10 5 _ rfl, blk_cell k10 6 _ rfl, blk_cell k10 7 _ rfl, by decide, by decide, by decide, rfl, by decide, cmds_nil _ _, fun _ => rfl⟩
        | 2, _ => exact ⟨64, 0, 0, none, 0, 0, [], blk_cell k10 8 _ rfl, blk_cell k10 9 _ rfl, blk_cell k10 10 _ rfl, blk_cell k10 11 _ rfl, by decide, by decide, by decide, rfl, by decide, cmds_nil _ _, fun _ => rfl⟩
        | 3, _ => exact ⟨0, 3, 3, none, 0, 0, [], blk_cell k10 12 _ rfl, blk_cell k10 13 _ rfl, blk_cell k10 14 _ rfl, blk_cell k10 15 _ rfl, by decide, by decide, by decide, rfl, by decide, cmds_nil _ _, fun _ => rfl⟩
        | 4, _ => exact ⟨0, 4, 0, none, 0, 0, [], blk_cell k10 16 _ rfl, blk_cell k10 17 _ rfl, blk_cell k10 18 _ rfl, blk_cell k10 19 _ rfl, by decide, by decide, by decide, rfl, by decide, cmds_nil _ _, fun _ => rfl⟩
        | 5, _ => exact ⟨0, 0, 2147483648, none, 0, 0, [], blk_cell k10 20 _ rfl, blk_cell k10 21 _ rfl, blk_cell k10 22 _ rfl, blk_cell k10 23 _ rfl, by decide, by decide, by decide, rfl, by decide, cmds_nil _ _, fun _ => rfl⟩
        | 6, _ => exact ⟨9223372036854775808, 0, 0, none, 0, 0, [], blk_cell k10 24 _ rfl, blk_cell k10 25 _ rfl, blk_cell k10 26 _ rfl, blk_cell k10 27 _ rfl, by decide, by decide, by decide, rfl, by decide, cmds_nil _ _, fun _ => rfl⟩
        | 7, _ => exact ⟨0, 0, 0, some ⟨_, 0, none⟩, 1, 1, [(0, 0)], blk_cell k10 28 _ rfl, blk_cell k10 29 _ rfl, blk_cell k10 30 _ rfl, blk_cell k10 31 _ rfl, by decide, by decide, by decide, rfl, by decide, cmds_lit [(0, 0)] (by decide) rfl k0, fun h => by cases h⟩
        | 8, _ => exact ⟨0, 0, 0, some ⟨_, 0, none⟩, 1, 1, [(4, 0)], blk_cell k10 32 _ rfl, blk_cell k10 33 _ rfl, blk_cell k10 34 _ rfl, blk_cell k10 35 _ rfl, by decide, by decide, by decide, rfl, by decide, cmds_lit [(4, 0)] (by decide) rfl k1, fun h => by cases h⟩
        | 9, _ => exact ⟨0, 0, 0, some ⟨_, 0, none⟩, 3, 3, [(1, 4), (2, 4), (3, 1)], blk_cell k10 36 _ rfl, blk_cell k10 37 _ rfl, blk_cell k10 38 _ rfl, blk_cell k10 39 _ rfl, by decide, by decide, by decide, rfl, by decide, cmds_lit [(1, 4), (2, 4), (3, 1)] (by decide) rfl k2, fun h => by cases h⟩
        | 10, _ => exact ⟨0, 0, 0, some ⟨_, 0, none⟩, 1, 1, [(1, 5)], blk_cell k10 40 _ rfl, blk_cell k10 41 _ rfl, blk_cell k10 42 _ rfl, blk_cell k10 43 _ rfl, by decide, by decide, by decide, rfl, by decide, cmds_lit [(1, 5)] (by decide) rfl k3, fun h => by cases h⟩
        | 11, _ => exact ⟨0, 0, 0, some ⟨_, 0, none⟩, 1, 1, [(3, 2)], blk_cell k10 44 _ rfl, blk_cell k10 45 _ rfl, blk_cell k10 46 _ rfl, blk_cell k10 47 _ rfl, by decide, by decide, by decide, rfl, by decide, cmds_lit [(3, 2)] (by decide) rfl k4, fun h => by cases h⟩
        | 12, _ => exact ⟨0, 0, 0, some ⟨_, 0, none⟩, 1, 1, [(2, -1)], blk_cell k10 48 _ rfl, blk_cell k10 49 _ rfl, blk_cell k10 50 _ rfl, blk_cell k10 51 _ rfl, by decide, by decide, by decide, rfl, by decide, cmds_lit [(2, -1)] (by decide) rfl k5, fun h => by cases h⟩
        | 13, _ => exact ⟨0, 0, 0, some ⟨_, 0, none⟩, 2, 2, [(1, 63), (3, 31)], blk_cell k10 52 _ rfl, blk_cell k10 53 _ rfl, blk_cell k10 54 _ rfl, blk_cell k10 55 _ rfl, by decide, by decide, by decide, rfl, by decide, cmds_lit [(1, 63), (3, 31)] (by decide) rfl k6, fun h => by cases h⟩
        | 14, _ => exact ⟨0, 0, 0, some ⟨_, 0, none⟩, 1, 1, [(1, 64)], blk_cell k10 56 _ rfl, blk_cell k10 57 _ rfl, blk_cell k10 58 _ rfl, blk_cell k10 59 _ rfl, by decide, by decide, by decide, rfl, by decide, cmds_lit [(1, 64)] (by decide) rfl k7, fun h => by cases h⟩
        | 15, _ => exact ⟨0, 0, 0, some ⟨_, 0, none⟩, 1, 1, [(3, 32)], blk_cell k10 60 _ rfl, blk_cell k10 61 _ rfl, blk_cell k10 62 _ rfl, blk_cell k10 63 _ rfl, by decide, by decide, by decide, rfl, by decide, cmds_lit [(3, 32)] (by decide) rfl k8, fun h => by cases h⟩
        | 16, _ => exact ⟨0, 0, 0, some ⟨_, 0, none⟩, 9, 9, List.replicate 9 (0, 0), blk_cell k10 64 _ rfl, blk_cell k10 65 _ rfl, blk_cell k10 66 _ rfl, blk_cell k10 67 _ rfl, by decide, by decide, by decide, rfl, by decide, cmds_lit (List.replicate 9 (0, 0)) (by decide) hC9 k9, fun h => by cases h⟩
        | q + 17, h => omega)
      obtain ⟨a11, a12, a13, a14, c11, c12, c13, c14, hL1⟩ := hL1.below hb4
      obtain ⟨a21, a22, a23, a24, c21, c22, c23, c24, hL2⟩ := hL2.below hb4
      obtain ⟨a31, a32, a33, a34, c31, c32, c33, c34, hL3⟩ := hg3.below hb4
      have hB4 := below_on hB hb4
      clear k0 k1 k2 k3 k4 k5 k6 k7 k8 k9 k10 hb4 hW4 hgr hB hg3 hC9 m9
      go_loopg [58] 17 (fun m i wr => ∃ q : Nat, q + m = 17 ∧ i = .int .i64 (q : Int) ∧ Below W4.heap.size W4 wr)
      case atStart => exact ⟨0, by omega, rfl, Below.refl _ _⟩
      case round =>
        obtain ⟨q, hq, rfl, hBq⟩ := hrel
        by_cases hq17 : q < 17
        · obtain ⟨o, n, r, a, len, ca, la, x0, x1, x2, x3, b1, b2, b3, b4, b5, hc, hz⟩ := (HR.out q hq17).below hBq
          have d1 : (q : Int) < 17 := by omega
          have d2 : (0 : Int) ≤ q := by omega
          have HB1 := Lib.hid b1
          have HB2 := Lib.hid b2
          have HB3 := Lib.hid b3
          have HB4 := Lib.hid b4
          have HB5 : Hid (len ≤ maxLen) := Lib.hid (by unfold maxLen; omega)
          have HC := Lib.hid hc
          have HZ := Lib.hid hz
          clear b1 b2 b3 b4 b5 hc hz
          have HK1 := Lib.hid (blk_keep hBq hL1)
          have HK2 := Lib.hid (blk_keep hBq hL2)
          have HK3 := Lib.hid (blk_keep hBq hL3)
          go_upto_region 7 with fail
          refine name_world ?_
          intro W5 hW5
          have hb5 : Below wr.heap.size wr W5 := by rw [hW5]; exact below1 wr _
          have HK5 := Lib.hid (show W5.heap[wr.heap.size]? = some (.cells #[.int .u64 (o : Int), .int .u32 (n : Int), .int .u32 (r : Int), .slice a len ca] 32) by rw [hW5]; exact heap_new wr _)
          obtain ⟨g5, hg5⟩ : ∃ g, g = wr.heap.size := ⟨_, rfl⟩
          rw [← hg5] at HK5 ⊢
          have HK1 := Lib.hid (blk_keep hb5 HK1.out)
          have HK2 := Lib.hid (blk_keep hb5 HK2.out)
          have HK3 := Lib.hid (blk_keep hb5 HK3.out)
          have HC := Lib.hid (HC.out.below hb5)
          have hb := below_on hBq hb5
          clear hW5 hb5 hg5 x0 x1 x2 x3 hBq
          have y10 := blk_cell HK1.out 0 _ rfl
          have y11 := blk_cell HK1.out 1 _ rfl
          have y12 := blk_cell HK1.out 2 _ rfl
          have y13 := blk_cell HK1.out 3 _ rfl
          have y20 := blk_cell HK2.out 0 _ rfl
          have y21 := blk_cell HK2.out 1 _ rfl
          have y22 := blk_cell HK2.out 2 _ rfl
          have y23 := blk_cell HK2.out 3 _ rfl
          have y30 := blk_cell HK3.out 0 _ rfl
          have y31 := blk_cell HK3.out 1 _ rfl
          have y32 := blk_cell HK3.out 2 _ rfl
          have y33 := blk_cell HK3.out 3 _ rfl
          have y50 := blk_cell HK5.out 0 _ rfl
          have y51 := blk_cell HK5.out 1 _ rfl
          have y52 := blk_cell HK5.out 2 _ rfl
          have y53 := blk_cell HK5.out 3 _ rfl
          have l5 := blk_lt HK5.out
          go_wp2_with fail
          refine (inputsRight_law _ a11 a12 a13 a14 6 2 3 5 c11 c12 c13 c14 (by unfold maxLen; omega) (by unfold maxLen; omega) (by unfold maxLen; omega) (by unfold maxLen; omega) o n r a len ca la HB1.out HB2.out HB3.out HB4.out HB5.out HC.out HZ.out).mono ?_
          rintro e v0 ⟨rfl, hbv⟩
          clear y10 y11 y12 y13 y20 y21 y22 y23 y30 y31 y32 y33 y50 y51 y52 y53 l5
          have HK1 := Lib.hid (blk_keep hbv HK1.out)
          have HK2 := Lib.hid (blk_keep hbv HK2.out)
          have HK3 := Lib.hid (blk_keep hbv HK3.out)
          have HK5 := Lib.hid (blk_keep hbv HK5.out)
          have HC := Lib.hid (HC.out.below hbv)
          have hb := below_on hb hbv
          clear hbv
          have y10 := blk_cell HK1.out 0 _ rfl
          have y11 := blk_cell HK1.out 1 _ rfl
          have y12 := blk_cell HK1.out 2 _ rfl
          have y13 := blk_cell HK1.out 3 _ rfl
          have y20 := blk_cell HK2.out 0 _ rfl
          have y21 := blk_cell HK2.out 1 _ rfl
          have y22 := blk_cell HK2.out 2 _ rfl
          have y23 := blk_cell HK2.out 3 _ rfl
          have y30 := blk_cell HK3.out 0 _ rfl
          have y31 := blk_cell HK3.out 1 _ rfl
          have y32 := blk_cell HK3.out 2 _ rfl
          have y33 := blk_cell HK3.out 3 _ rfl
          have y50 := blk_cell HK5.out 0 _ rfl
          have y51 := blk_cell HK5.out 1 _ rfl
          have y52 := blk_cell HK5.out 2 _ rfl
          have y53 := blk_cell HK5.out 3 _ rfl
          have l5 := blk_lt HK5.out
          go_wp2_with fail
          refine (inputsRight_law _ none none none none 0 0 0 0 0 0 0 0 (Nat.zero_le _) (Nat.zero_le _) (Nat.zero_le _) (Nat.zero_le _) o n r a len ca la HB1.out HB2.out HB3.out HB4.out HB5.out HC.out HZ.out).mono ?_
          rintro e v1 ⟨rfl, hbv⟩
          clear y10 y11 y12 y13 y20 y21 y22 y23 y30 y31 y32 y33 y50 y51 y52 y53 l5
          have HK1 := Lib.hid (blk_keep hbv HK1.out)
          have HK2 := Lib.hid (blk_keep hbv HK2.out)
          have HK3 := Lib.hid (blk_keep hbv HK3.out)
          have HK5 := Lib.hid (blk_keep hbv HK5.out)
          have HC := Lib.hid (HC.out.below hbv)
          have hb := below_on hb hbv
          clear hbv
          have y10 := blk_cell HK1.out 0 _ rfl
          have y11 := blk_cell HK1.out 1 _ rfl
          have y12 := blk_cell HK1.out 2 _ rfl
          have y13 := blk_cell HK1.out 3 _ rfl
          have y20 := blk_cell HK2.out 0 _ rfl
          have y21 := blk_cell HK2.out 1 _ rfl
          have y22 := blk_cell HK2.out 2 _ rfl
          have y23 := blk_cell HK2.out 3 _ rfl
          have y30 := blk_cell HK3.out 0 _ rfl
          have y31 := blk_cell HK3.out 1 _ rfl
          have y32 := blk_cell HK3.out 2 _ rfl
          have y33 := blk_cell HK3.out 3 _ rfl
          have y50 := blk_cell HK5.out 0 _ rfl
          have y51 := blk_cell HK5.out 1 _ rfl
          have y52 := blk_cell HK5.out 2 _ rfl
          have y53 := blk_cell HK5.out 3 _ rfl
          have l5 := blk_lt HK5.out
          go_wp2_with fail
          refine (inputsRight_law _ a21 a22 a23 a24 64 32 0 64 c21 c22 c23 c24 (by unfold maxLen; omega) (by unfold maxLen; omega) (by unfold maxLen; omega) (by unfold maxLen; omega) o n r a len ca la HB1.out HB2.out HB3.out HB4.out HB5.out HC.out HZ.out).mono ?_
          rintro e v2 ⟨rfl, hbv⟩
          clear y10 y11 y12 y13 y20 y21 y22 y23 y30 y31 y32 y33 y50 y51 y52 y53 l5
          have HK1 := Lib.hid (blk_keep hbv HK1.out)
          have HK2 := Lib.hid (blk_keep hbv HK2.out)
          have HK3 := Lib.hid (blk_keep hbv HK3.out)
          have HK5 := Lib.hid (blk_keep hbv HK5.out)
          have HC := Lib.hid (HC.out.below hbv)
          have hb := below_on hb hbv
          clear hbv
          have y10 := blk_cell HK1.out 0 _ rfl
          have y11 := blk_cell HK1.out 1 _ rfl
          have y12 := blk_cell HK1.out 2 _ rfl
          have y13 := blk_cell HK1.out 3 _ rfl
          have y20 := blk_cell HK2.out 0 _ rfl
          have y21 := blk_cell HK2.out 1 _ rfl
          have y22 := blk_cell HK2.out 2 _ rfl
          have y23 := blk_cell HK2.out 3 _ rfl
          have y30 := blk_cell HK3.out 0 _ rfl
          have y31 := blk_cell HK3.out 1 _ rfl
          have y32 := blk_cell HK3.out 2 _ rfl
          have y33 := blk_cell HK3.out 3 _ rfl
          have y50 := blk_cell HK5.out 0 _ rfl
          have y51 := blk_cell HK5.out 1 _ rfl
          have y52 := blk_cell HK5.out 2 _ rfl
          have y53 := blk_cell HK5.out 3 _ rfl
          have l5 := blk_lt HK5.out
          go_wp2_with fail
          refine (inputsRight_law _ a31 a32 a33 a34 66 34 0 66 c31 c32 c33 c34 (by unfold maxLen; omega) (by unfold maxLen; omega) (by unfold maxLen; omega) (by unfold maxLen; omega) o n r a len ca la HB1.out HB2.out HB3.out HB4.out HB5.out HC.out HZ.out).mono ?_
          rintro e v3 ⟨rfl, hbv⟩
          clear y10 y11 y12 y13 y20 y21 y22 y23 y30 y31 y32 y33 y50 y51 y52 y53 l5
          have HK1 := Lib.hid (blk_keep hbv HK1.out)
          have HK2 := Lib.hid (blk_keep hbv HK2.out)
          have HK3 := Lib.hid (blk_keep hbv HK3.out)
          have HK5 := Lib.hid (blk_keep hbv HK5.out)
          have HC := Lib.hid (HC.out.below hbv)
          have hb := below_on hb hbv
          clear hbv
          have y10 := blk_cell HK1.out 0 _ rfl
          have y11 := blk_cell HK1.out 1 _ rfl
          have y12 := blk_cell HK1.out 2 _ rfl
          have y13 := blk_cell HK1.out 3 _ rfl
          have y20 := blk_cell HK2.out 0 _ rfl
          have y21 := blk_cell HK2.out 1 _ rfl
          have y22 := blk_cell HK2.out 2 _ rfl
          have y23 := blk_cell HK2.out 3 _ rfl
          have y30 := blk_cell HK3.out 0 _ rfl
          have y31 := blk_cell HK3.out 1 _ rfl
          have y32 := blk_cell HK3.out 2 _ rfl
          have y33 := blk_cell HK3.out 3 _ rfl
          have y50 := blk_cell HK5.out 0 _ rfl
          have y51 := blk_cell HK5.out 1 _ rfl
          have y52 := blk_cell HK5.out 2 _ rfl
          have y53 := blk_cell HK5.out 3 _ rfl
          have l5 := blk_lt HK5.out
          go_wp2_with fail
          refine (inputsSafe_law _ a11 a12 a13 a14 6 2 3 5 c11 c12 c13 c14 (by unfold maxLen; omega) (by unfold maxLen; omega) (by unfold maxLen; omega) (by unfold maxLen; omega) o n r a len ca la HB1.out HB2.out HB3.out HB4.out HB5.out HC.out HZ.out o n r a len ca la HB1.out HB2.out HB3.out HB4.out HB5.out HC.out HZ.out).mono ?_
          rintro e v4 ⟨rfl, hbv⟩
          clear y10 y11 y12 y13 y20 y21 y22 y23 y30 y31 y32 y33 y50 y51 y52 y53 l5
          have HK1 := Lib.hid (blk_keep hbv HK1.out)
          have HK2 := Lib.hid (blk_keep hbv HK2.out)
          have HK3 := Lib.hid (blk_keep hbv HK3.out)
          have HK5 := Lib.hid (blk_keep hbv HK5.out)
          have HC := Lib.hid (HC.out.below hbv)
          have hb := below_on hb hbv
          clear hbv
          have y10 := blk_cell HK1.out 0 _ rfl
          have y11 := blk_cell HK1.out 1 _ rfl
          have y12 := blk_cell HK1.out 2 _ rfl
          have y13 := blk_cell HK1.out 3 _ rfl
          have y20 := blk_cell HK2.out 0 _ rfl
          have y21 := blk_cell HK2.out 1 _ rfl
          have y22 := blk_cell HK2.out 2 _ rfl
          have y23 := blk_cell HK2.out 3 _ rfl
          have y30 := blk_cell HK3.out 0 _ rfl
          have y31 := blk_cell HK3.out 1 _ rfl
          have y32 := blk_cell HK3.out 2 _ rfl
          have y33 := blk_cell HK3.out 3 _ rfl
          have y50 := blk_cell HK5.out 0 _ rfl
          have y51 := blk_cell HK5.out 1 _ rfl
          have y52 := blk_cell HK5.out 2 _ rfl
          have y53 := blk_cell HK5.out 3 _ rfl
          have l5 := blk_lt HK5.out
          go_wp2_with fail
          refine (inputsSafe_law _ a11 a12 a13 a14 6 2 3 5 c11 c12 c13 c14 (by unfold maxLen; omega) (by unfold maxLen; omega) (by unfold maxLen; omega) (by unfold maxLen; omega) o n r a len ca la HB1.out HB2.out HB3.out HB4.out HB5.out HC.out HZ.out 5 1 0 none 0 0 [] (by decide) (by decide) (by decide) rfl (Nat.zero_le _) (cmds_nil _ _) (fun _ => rfl)).mono ?_
          rintro e v5 ⟨rfl, hbv⟩
          clear y10 y11 y12 y13 y20 y21 y22 y23 y30 y31 y32 y33 y50 y51 y52 y53 l5
          have HK1 := Lib.hid (blk_keep hbv HK1.out)
          have HK2 := Lib.hid (blk_keep hbv HK2.out)
          have HK3 := Lib.hid (blk_keep hbv HK3.out)
          have HK5 := Lib.hid (blk_keep hbv HK5.out)
          have HC := Lib.hid (HC.out.below hbv)
          have hb := below_on hb hbv
          clear hbv
          have y10 := blk_cell HK1.out 0 _ rfl
          have y11 := blk_cell HK1.out 1 _ rfl
          have y12 := blk_cell HK1.out 2 _ rfl
          have y13 := blk_cell HK1.out 3 _ rfl
          have y20 := blk_cell HK2.out 0 _ rfl
          have y21 := blk_cell HK2.out 1 _ rfl
          have y22 := blk_cell HK2.out 2 _ rfl
          have y23 := blk_cell HK2.out 3 _ rfl
          have y30 := blk_cell HK3.out 0 _ rfl
          have y31 := blk_cell HK3.out 1 _ rfl
          have y32 := blk_cell HK3.out 2 _ rfl
          have y33 := blk_cell HK3.out 3 _ rfl
          have y50 := blk_cell HK5.out 0 _ rfl
          have y51 := blk_cell HK5.out 1 _ rfl
          have y52 := blk_cell HK5.out 2 _ rfl
          have y53 := blk_cell HK5.out 3 _ rfl
          have l5 := blk_lt HK5.out
          go_wp2_with fail
          refine (inputsMerge_law _ o n r a len ca la HB1.out HB2.out HB3.out HB4.out HB5.out (HC.out.below (below1 _ _)) HZ.out 0 0 0 (some ⟨_, 0, none⟩) 1 1 [(1, 5)] (by decide) (by decide) (by decide) rfl (by unfold maxLen; omega) (cmds_lit [(1, 5)] (by decide) rfl (heap_new _ _)) (fun h => by cases h)).mono ?_
          rintro e v6 ⟨rfl, hbv⟩
          have hbv := below_on (below1 _ _) hbv
          clear y10 y11 y12 y13 y20 y21 y22 y23 y30 y31 y32 y33 y50 y51 y52 y53 l5
          have HK1 := Lib.hid (blk_keep hbv HK1.out)
          have HK2 := Lib.hid (blk_keep hbv HK2.out)
          have HK3 := Lib.hid (blk_keep hbv HK3.out)
          have HK5 := Lib.hid (blk_keep hbv HK5.out)
          have HC := Lib.hid (HC.out.below hbv)
          have hb := below_on hb hbv
          clear hbv
          have y10 := blk_cell HK1.out 0 _ rfl
          have y11 := blk_cell HK1.out 1 _ rfl
          have y12 := blk_cell HK1.out 2 _ rfl
          have y13 := blk_cell HK1.out 3 _ rfl
          have y20 := blk_cell HK2.out 0 _ rfl
          have y21 := blk_cell HK2.out 1 _ rfl
          have y22 := blk_cell HK2.out 2 _ rfl
          have y23 := blk_cell HK2.out 3 _ rfl
          have y30 := blk_cell HK3.out 0 _ rfl
          have y31 := blk_cell HK3.out 1 _ rfl
          have y32 := blk_cell HK3.out 2 _ rfl
          have y33 := blk_cell HK3.out 3 _ rfl
          have y50 := blk_cell HK5.out 0 _ rfl
          have y51 := blk_cell HK5.out 1 _ rfl
          have y52 := blk_cell HK5.out 2 _ rfl
          have y53 := blk_cell HK5.out 3 _ rfl
          have l5 := blk_lt HK5.out
          go_wp2_with fail
          refine (inputsSame_law _ o n r a len ca la HB1.out HB2.out HB3.out HB4.out HB5.out HC.out HZ.out 63 0 0 none 0 0 [] (by decide) (by decide) (by decide) rfl (Nat.zero_le _) (cmds_nil _ _) (fun _ => rfl)).mono ?_
          rintro e v7 ⟨rfl, hbv⟩
          clear y10 y11 y12 y13 y20 y21 y22 y23 y30 y31 y32 y33 y50 y51 y52 y53 l5
          have HK1 := Lib.hid (blk_keep hbv HK1.out)
          have HK2 := Lib.hid (blk_keep hbv HK2.out)
          have HK3 := Lib.hid (blk_keep hbv HK3.out)
          have HK5 := Lib.hid (blk_keep hbv HK5.out)
          have HC := Lib.hid (HC.out.below hbv)
          have hb := below_on hb hbv
          clear hbv
          have y10 := blk_cell HK1.out 0 _ rfl
          have y11 := blk_cell HK1.out 1 _ rfl
          have y12 := blk_cell HK1.out 2 _ rfl
          have y13 := blk_cell HK1.out 3 _ rfl
          have y20 := blk_cell HK2.out 0 _ rfl
          have y21 := blk_cell HK2.out 1 _ rfl
          have y22 := blk_cell HK2.out 2 _ rfl
          have y23 := blk_cell HK2.out 3 _ rfl
          have y30 := blk_cell HK3.out 0 _ rfl
          have y31 := blk_cell HK3.out 1 _ rfl
          have y32 := blk_cell HK3.out 2 _ rfl
          have y33 := blk_cell HK3.out 3 _ rfl
          have y50 := blk_cell HK5.out 0 _ rfl
          have y51 := blk_cell HK5.out 1 _ rfl
          have y52 := blk_cell HK5.out 2 _ rfl
          have y53 := blk_cell HK5.out 3 _ rfl
          have l5 := blk_lt HK5.out
          go_wp2_with fail
          refine (inputsSame_law _ 0 0 0 (some ⟨_, 0, none⟩) 1 1 [(1, 4)] (by decide) (by decide) (by decide) rfl (by unfold maxLen; omega) (cmds_lit [(1, 4)] (by decide) rfl (heap_new _ _)) (fun h => by cases h) o n r a len ca la HB1.out HB2.out HB3.out HB4.out HB5.out (HC.out.below (below1 _ _)) HZ.out).mono ?_
          rintro e v8 ⟨rfl, hbv⟩
          have hbv := below_on (below1 _ _) hbv
          clear y10 y11 y12 y13 y20 y21 y22 y23 y30 y31 y32 y33 y50 y51 y52 y53 l5
          have HK1 := Lib.hid (blk_keep hbv HK1.out)
          have HK2 := Lib.hid (blk_keep hbv HK2.out)
          have HK3 := Lib.hid (blk_keep hbv HK3.out)
          have HK5 := Lib.hid (blk_keep hbv HK5.out)
          have HC := Lib.hid (HC.out.below hbv)
          have hb := below_on hb hbv
          clear hbv
          go_wp2_with fail
          go_roundg (17 - (q + 1))
          case rel => exact ⟨q + 1, by omega, by go_num, hb⟩
          case measure => omega
        · obtain rfl : q = 17 := by omega
          have hB5 := below_on hB4 hBq
          have hK1 := blk_keep hBq hL1
          clear hL1 hL2 hL3 HR hB4
          obtain ⟨W5, hW5⟩ : ∃ W, W = wr := ⟨_, rfl⟩
          rw [← hW5] at hB5 hK1 ⊢
          clear hW5 hBq
          go_wp2_with fail
          go_loopg [6, 7] 9 (fun m s i w4 => ∃ j : Nat, j + m = 9 ∧ i = .int .i64 (j : Int) ∧ w4.ownsRow W5.heap.size 38 2 s j (cmdCells (eights j)) ∧ Below W5.heap.size W5 w4)
          case atStart => exact ⟨0, by omega, rfl, World.ownsRow_nil _ _ _ _, Below.refl _ _⟩
          case round =>
            obtain ⟨j, hj, rfl, hO, hB6⟩ := hrel
            have hsz := hB6.size
            by_cases hj9 : j < 9
            · obtain ⟨r, hr⟩ : ∃ r, r = j % 5 := ⟨_, rfl⟩
              have e1 : (j : Int).tmod 5 = (r : Int) := by rw [hr, Int.tmod_eq_emod_of_nonneg (by omega)]; omega
              have e1' : (j : Int) % 5 = (r : Int) := by omega
              have HM : Hid (eights (j + 1) = eights j ++ [(1, (r : Int))]) := Lib.hid (by rw [eights_succ, hr])
              have hr5 : r < 5 := by omega
              have HOW := Lib.hid (own_below (below1 wr (Obj.cells #[Value.int IntKind.u8 1, Value.int IntKind.i64 (r : Int)] 38)) hO)
              have HSR := Lib.hid (SrcAt.cmds (c := 1) (cmds_lit [(1, (r : Int))] (by intro c hc; simp at hc; subst hc; omega) rfl (heap_new wr (Obj.cells #[Value.int IntKind.u8 1, Value.int IntKind.i64 (r : Int)] 38))) (by intro h; cases h))
              obtain ⟨i0, hi, hz0, hz1, hz2⟩ := info_parts info_cmd
              have hj9' : (j : Int) < 9 := by omega
              clear hr
              go_wp2_with (at_builtin; refine wpList_append_src rfl _ _ 30 rfl W5.heap.size 38 i0 (.agg #[.int .u8 0, .int .i64 0]) 2 16 Try.underlying30 hi hz0 hz1 hz2 rfl (by decide) _ j (cmdCells (eights j)) rfl HOW.out (some ⟨wr.heap.size, 0, none⟩) 1 1 (cmdCells [(1, (r : Int))]) rfl rfl HSR.out (by unfold maxLen; omega) (by omega) (by simp; omega) ?_; intro v4 W4' hown4 hg4)
              have hB7 : Below W5.heap.size W5 W4' := (hB6.alloc hsz _).grown hg4 (by simp; omega) (fun k hk => (HOW.out.lt _ hk).1)
              go_roundg (9 - (j + 1))
              case rel => exact ⟨j + 1, by omega, by go_num, by rw [HM.out, cmdCells_append]; exact hown4, hB7⟩
              case measure => omega
            · obtain rfl : j = 9 := by omega
              have hB8 := below_on hB5 hB6
              have hK2 := blk_keep hB6 hK1
              obtain ⟨a9, c9, rfl, hC, hZ⟩ := own_cmds (eights_ok 9) (eights_len 9) hO
              have hcap : 9 ≤ c9 ∧ c9 ≤ 9223372036854775807 := by
                rcases hO.2 with ⟨_, h0⟩ | ⟨g, cap, cur, he, _, _, h1, h2, _, _⟩
                · exact absurd h0 (by decide)
                · cases he; exact ⟨h1, by unfold maxLen at h2; omega⟩
              obtain ⟨hcap1, hcap2⟩ := hcap
              have hcap3 : (8 : Int) ≤ (c9 : Int) := by omega
              clear hO hK1 hB6
              obtain ⟨W6, hW6⟩ : ∃ W, W = wr := ⟨_, rfl⟩
              rw [← hW6] at hB8 hK2 hC ⊢
              clear hW6
              have HD1 : ∀ w', Below W6.heap.size W6 w' → Calls Try.prog 3 #[.agg #[.slice a11 6 c11, .slice a12 2 c12, .slice a13 3 c13, .slice a14 5 c14], .agg #[.int .u64 0, .int .u32 0, .int .u32 0, .slice a9 9 c9]] w' fun e w'' => e = .returned (.bool true) ∧ Below W6.heap.size W6 w'' :=
                fun w' hw' => (inputsRight_law w' a11 a12 a13 a14 6 2 3 5 c11 c12 c13 c14 (by unfold maxLen; omega) (by unfold maxLen; omega) (by unfold maxLen; omega) (by unfold maxLen; omega) 0 0 0 a9 9 c9 (eights 9) (by decide) (by decide) (by decide) (eights_len 9) (by unfold maxLen; omega) (hC.below hw') hZ).mono (fun e w9 ⟨h1, h2⟩ => ⟨h1, below_on hw' h2⟩)
              have HD2 : ∀ w', Below W6.heap.size W6 w' → Calls Try.prog 3 #[.agg #[.slice a11 6 c11, .slice a12 2 c12, .slice a13 3 c13, .slice a14 5 c14], .agg #[.int .u64 0, .int .u32 0, .int .u32 0, .slice a9 8 c9]] w' fun e w'' => e = .returned (.bool true) ∧ Below W6.heap.size W6 w'' :=
                fun w' hw' => (inputsRight_law w' a11 a12 a13 a14 6 2 3 5 c11 c12 c13 c14 (by unfold maxLen; omega) (by unfold maxLen; omega) (by unfold maxLen; omega) (by unfold maxLen; omega) 0 0 0 a9 8 c9 ((eights 9).take 8) (by decide) (by decide) (by decide) (by rw [List.length_take, eights_len]; rfl) (by unfold maxLen; omega) (cmds_take (hC.below hw') 8) hZ).mono (fun e w9 ⟨h1, h2⟩ => ⟨h1, below_on hw' h2⟩)
              have HD3 : ∀ w', Below W6.heap.size W6 w' → Calls Try.prog 5 #[.int .u32 3, .int .u32 2] w' fun e w'' => e = .returned (.bool true) ∧ Below W6.heap.size W6 w'' := fun w' hw' => (walk_InputsSides 3 2 w' (by decide) (by decide)).mono (fun e w9 ⟨h1, h2⟩ => ⟨h1, below_on hw' h2⟩)
              have HD4 : ∀ w', Below W6.heap.size W6 w' → Calls Try.prog 5 #[.int .u32 4294967295, .int .u32 0] w' fun e w'' => e = .returned (.bool true) ∧ Below W6.heap.size W6 w'' := fun w' hw' => (walk_InputsSides 4294967295 0 w' (by decide) (by decide)).mono (fun e w9 ⟨h1, h2⟩ => ⟨h1, below_on hw' h2⟩)
              have HD5 : ∀ w', Below W6.heap.size W6 w' → Calls Try.prog 9 #[] w' fun e w'' => e = .returned (.bool true) ∧ Below W6.heap.size W6 w'' := fun w' hw' => (works_any w').mono (fun e w9 ⟨h1, h2⟩ => ⟨h1, below_on hw' h2⟩)
              clear hC hZ
              go_wp2_with fail
              refine wp_region_calm (by kernel_rfl) ?_ ?_
              · kernel_rfl
              repeat first
               | go_big_quiet_skip
               | (go_big_quiet_want; go_big_quiet_op; go_big_quiet_on)
               | (with_reducible apply wpQuiet_step
                  intro K hK
                  go_simp
                  first
                    | (refine hK _ ?_; clear hK K)
                    | (apply Exists.intro
                       refine ⟨fun w' hw' => ?_, hK _ ?_⟩
                       ·
                         (first
                          | with_reducible exact HD1 _ hw'
                          | with_reducible exact HD2 _ hw'
                          | with_reducible exact HD3 _ hw'
                          | with_reducible exact HD4 _ hw'
                          | with_reducible exact HD5 _ hw'
                          | (have q9 := blk_keep hw' hK2
                             have y0 := blk_cell q9 0 _ rfl
                             have y1 := blk_cell q9 1 _ rfl
                             have y2 := blk_cell q9 2 _ rfl
                             have y3 := blk_cell q9 3 _ rfl
                             go_simp
                             first | done | with_reducible exact rfl | with_reducible exact ⟨rfl, rfl⟩))
                       clear hK K))
              refine wpQuiet_nil ?_
              intro w7 hw7
              go_wp2_with fail
              go_ret
              exact ⟨rfl, below_on hB8 hw7⟩
end Go.Proofs.Ytgepflelaemmnaa
