/-
  The walk of the statement AgreeKnown of chapter 20.
-/
import Derived.Test.YtbbacmlcimgjbaaAgPlays
import Derived.Test.YtbbacmlcimgjbaaAgSame
import Derived.Test.YtbbacmlcimgjbaaAgLawA
import Derived.Test.YtbbacmlcimgjbaaAgKnP
namespace Go.Proofs.Ytbbacmlcimgjbaa
open Go.RowKit
attribute [local irreducible] LongAt CalsAt WaysAt kCals kWays
theorem five_mem {w : World} {e1 e2 e3 e4 e5 : Cal} (h : LongAt w e1.a e1.cap e1.I ∧ LongAt w e2.a e2.cap e2.I ∧ LongAt w e3.a e3.cap e3.I ∧ LongAt w e4.a e4.cap e4.I ∧ LongAt w e5.a e5.cap e5.I) : ∀ c ∈ [e1, e2, e3, e4, e5], LongAt w c.a c.cap c.I := by
  obtain ⟨z1, z2, z3, z4, z5⟩ := h
  intro c hc
  simp only [List.mem_cons, List.not_mem_nil, or_false] at hc
  rcases hc with rfl | rfl | rfl | rfl | rfl <;> assumption
theorem cal_at {w : World} {l : List Cal} {g k : Nat} {c : Cal} (h : CalsAt w (some ⟨g, 0, none⟩) l) (hc : l[k]? = some c) : LongAt w c.a c.cap c.I ∧ w.cell? ⟨g, k * 7, none⟩ = some (.int .i64 c.k) ∧ w.cell? ⟨g, k * 7 + 1, none⟩ = some (.int .i64 c.ch) ∧ w.cell? ⟨g, k * 7 + 2, none⟩ = some (.int .i64 c.cy) ∧ w.cell? ⟨g, k * 7 + 3, none⟩ = some (.int .u64 (c.I.o : Int)) ∧ w.cell? ⟨g, k * 7 + 4, none⟩ = some (.int .u32 (c.I.n : Int)) ∧ w.cell? ⟨g, k * 7 + 5, none⟩ = some (.int .u32 (c.I.r : Int)) ∧ w.cell? ⟨g, k * 7 + 6, none⟩ = some (.slice c.a c.I.c.length c.cap) := by
  unfold CalsAt at h
  refine ⟨h.1 c (List.mem_of_getElem? hc), ?_⟩
  obtain ⟨b, off, hab, hcell⟩ := h.2.resolve_left (by rintro rfl; simp at hc)
  cases hab
  have := hcell k c hc
  simpa only [Nat.zero_add] using this
set_option maxRecDepth 100000 in
set_option maxHeartbeats 8000000 in
theorem walk_AgreeKnown (w : World) : Calls Try.prog 6 #[] w fun e w' => e = .returned (.bool true) ∧ Below w.heap.size w w' := by
  go_enter Try.func6, Try.ntmps6
  go_wp2_with fail
  refine name_world ?_
  intro W hW
  obtain ⟨k0, k1, k2, k3, k4, hb⟩ := five hW
  have hp := one_long k0 kX (by decide) rfl
  have hq := one_long k2 kY (by decide) rfl
  have hC : CalsAt W (some ⟨w.heap.size + 1 + 1 + 1 + 1, 0, none⟩) (kCals w.heap.size (w.heap.size + 1 + 1)) := cals_lit _ (kCals_long hp hq) (by unfold kCals; rfl) k4
  have HWY : Hid (∀ (g : Nat) (w' : World) (t : TypeId) (fr : Nat × Nat) (C : Array Value), Below W.heap.size W w' → C.toList = wayCells (kWays w.heap.size (w.heap.size + 1 + 1)) → w'.heap[g]? = some (.cells C t fr) → WaysAt w' (some ⟨g, 0, none⟩) (kWays w.heap.size (w.heap.size + 1 + 1))) := Lib.hid (fun g w' t fr C h1 h2 h3 => ways_lit _ (kWays_long (hp.below h1) (hq.below h1)) h2 h3)
  have HB := Lib.hid hb
  obtain ⟨p, hp0⟩ : ∃ p, p = w.heap.size := ⟨_, rfl⟩
  rw [← hp0] at k0 k1 k2 k3 k4 hC HWY ⊢
  obtain ⟨p2, hp2⟩ : ∃ p2, p2 = p + 1 + 1 := ⟨_, rfl⟩
  rw [← hp2] at k2 k3 k4 hC HWY ⊢
  obtain ⟨p1, hp1⟩ : ∃ p1, p1 = p + 1 := ⟨_, rfl⟩
  rw [← hp1] at k1 ⊢
  obtain ⟨p4, hp4⟩ : ∃ p4, p4 = p2 + 1 + 1 := ⟨_, rfl⟩
  rw [← hp4] at k4 hC ⊢
  obtain ⟨p3, hp3⟩ : ∃ p3, p3 = p2 + 1 := ⟨_, rfl⟩
  rw [← hp3] at k3 ⊢
  have HX : Hid (∀ w', Below W.heap.size W w' → w'.cell? ⟨p1, 0, none⟩ = some (.int .u64 1) ∧ w'.cell? ⟨p1, 1, none⟩ = some (.int .u32 0) ∧ w'.cell? ⟨p1, 2, none⟩ = some (.int .u32 0) ∧ w'.cell? ⟨p1, 3, none⟩ = some (.slice (some ⟨p, 0, none⟩) 1 1) ∧ w'.cell? ⟨p3, 0, none⟩ = some (.int .u64 2) ∧ w'.cell? ⟨p3, 1, none⟩ = some (.int .u32 3) ∧ w'.cell? ⟨p3, 2, none⟩ = some (.int .u32 0) ∧ w'.cell? ⟨p3, 3, none⟩ = some (.slice (some ⟨p2, 0, none⟩) 1 1)) :=
    Lib.hid (fun w' h => ⟨blk_cell (blk_keep h k1) 0 _ rfl, blk_cell (blk_keep h k1) 1 _ rfl, blk_cell (blk_keep h k1) 2 _ rfl, blk_cell (blk_keep h k1) 3 _ rfl, blk_cell (blk_keep h k3) 0 _ rfl, blk_cell (blk_keep h k3) 1 _ rfl, blk_cell (blk_keep h k3) 2 _ rfl, blk_cell (blk_keep h k3) 3 _ rfl⟩)
  have HC := Lib.hid hC
  clear hW k0 k1 k2 k3 k4 hb hp hq hC hp0 hp1 hp2 hp3 hp4
  go_loopw [4] (fun i wr => ∃ q : Nat, q ≤ 10 ∧ i = .int .i64 q ∧ Below W.heap.size W wr) (fun i _ => 10 - (intOf i).toNat)
  case atStart => exact ⟨0, by omega, rfl, Below.refl _ _⟩
  case round =>
    obtain ⟨q, hq, rfl, hB⟩ := hrel
    by_cases hlt : q < 10
    · have d1 : (0 : Int) ≤ q := by omega
      have d2 : (q : Int) < 10 := by omega
      go_wp2_with fail
      go_loopw [5] (fun i wr => ∃ q2 : Nat, q2 ≤ 10 ∧ i = .int .i64 q2 ∧ Below W.heap.size W wr) (fun i _ => 10 - (intOf i).toNat)
      case atStart => exact ⟨0, by omega, rfl, hB⟩
      case round =>
        obtain ⟨q2, hq2, rfl, hB⟩ := hrel
        by_cases hlt2 : q2 < 10
        · have d3 : (0 : Int) ≤ q2 := by omega
          have d4 : (q2 : Int) < 10 := by omega
          go_wp2_with fail
          go_loopw [6] (fun i wr => ∃ q3 : Nat, q3 ≤ 10 ∧ i = .int .i64 q3 ∧ Below W.heap.size W wr) (fun i _ => 10 - (intOf i).toNat)
          case atStart => exact ⟨0, by omega, rfl, hB⟩
          case round =>
            obtain ⟨q3, hq3, rfl, hB⟩ := hrel
            by_cases hlt3 : q3 < 10
            · have d5 : (0 : Int) ≤ q3 := by omega
              have d6 : (q3 : Int) < 10 := by omega
              obtain ⟨m, hm, m1, m2, m3, m4, m5, m6, m7, m8⟩ := mod10 q q3 hlt hlt3
              obtain ⟨n, hn, n1, n2, n3, n4, n5, n6, n7, n8, n9, n10⟩ := mod10b q2 q3 hlt2 hlt3
              have hl := kCals_length p p2
              obtain ⟨e1, he1⟩ : ∃ c, (kCals p p2)[q]? = some c := ⟨_, List.getElem?_eq_getElem (by rw [hl]; exact hlt)⟩
              obtain ⟨e2, he2⟩ : ∃ c, (kCals p p2)[q2]? = some c := ⟨_, List.getElem?_eq_getElem (by rw [hl]; exact hlt2)⟩
              obtain ⟨e3, he3⟩ : ∃ c, (kCals p p2)[q3]? = some c := ⟨_, List.getElem?_eq_getElem (by rw [hl]; exact hlt3)⟩
              obtain ⟨e4, he4⟩ : ∃ c, (kCals p p2)[m]? = some c := ⟨_, List.getElem?_eq_getElem (by rw [hl]; exact hm)⟩
              obtain ⟨e5, he5⟩ : ∃ c, (kCals p p2)[n]? = some c := ⟨_, List.getElem?_eq_getElem (by rw [hl]; exact hn)⟩
              have hBd := hB.drew
              obtain ⟨_, a0, a1, a2, a3, a4, a5, a6⟩ := cal_at (HC.out.below hBd) he1
              obtain ⟨_, b0, b1, b2, b3, b4, b5, b6⟩ := cal_at (HC.out.below hBd) he2
              obtain ⟨_, c0, c1, c2, c3, c4, c5, c6⟩ := cal_at (HC.out.below hBd) he3
              obtain ⟨_, f0, f1, f2, f3, f4, f5, f6⟩ := cal_at (HC.out.below hBd) he4
              obtain ⟨_, g0, g1, g2, g3, g4, g5, g6⟩ := cal_at (HC.out.below hBd) he5
              have HL : Hid (∀ o, LongAt (wr.alloc o).drew e1.a e1.cap e1.I ∧ LongAt (wr.alloc o).drew e2.a e2.cap e2.I ∧ LongAt (wr.alloc o).drew e3.a e3.cap e3.I ∧ LongAt (wr.alloc o).drew e4.a e4.cap e4.I ∧ LongAt (wr.alloc o).drew e5.a e5.cap e5.I) := Lib.hid (fun o => ⟨(cal_at (HC.out.below hB) he1).1.below (w' := (wr.alloc o).drew) (below1 _ o).drew, (cal_at (HC.out.below hB) he2).1.below (w' := (wr.alloc o).drew) (below1 _ o).drew, (cal_at (HC.out.below hB) he3).1.below (w' := (wr.alloc o).drew) (below1 _ o).drew, (cal_at (HC.out.below hB) he4).1.below (w' := (wr.alloc o).drew) (below1 _ o).drew, (cal_at (HC.out.below hB) he5).1.below (w' := (wr.alloc o).drew) (below1 _ o).drew⟩)
              clear he1 he2 he3 he4 he5 hl
              go_wp2_with fail
              go_region
              refine name_then ?_
              intro W2 hW2
              have hl6 : CalsAt W2 (some ⟨wr.heap.size, 0, none⟩) [e1, e2, e3, e4, e5] := by
                rw [hW2]
                exact cals_lit _ (five_mem (HL.out _)) rfl (heap_new1 wr _)
              have hB2 : Below W.heap.size W W2 := by rw [hW2]; exact (below_on hB (below1 _ _)).drew
              clear hW2
              go_wp2_with fail
              refine (plays_any 0 (some ⟨wr.heap.size, 0, none⟩) 5 5 [e1, e2, e3, e4, e5] W2 rfl (by unfold maxLen; omega) hl6).mono ?_
              rintro e y1 ⟨rfl, hy1⟩
              have hB3 := below_on hB2 hy1
              clear a0 a1 a2 a3 a4 a5 a6 b0 b1 b2 b3 b4 b5 b6 c0 c1 c2 c3 c4 c5 c6 f0 f1 f2 f3 f4 f5 f6 g0 g1 g2 g3 g4 g5 g6 m1 m2 m3 m4 m5 m6 m7 n1 n2 n3 n4 n5 n6 n7 n8 n9
              go_wp2_with fail
              go_roundw
              case rel => exact ⟨q3 + 1, by omega, by go_num, hB3⟩
              case measure => simp [intOf]; omega
            · obtain rfl : q3 = 10 := by omega
              go_wp2_with fail
              go_roundw
              case rel => exact ⟨q2 + 1, by omega, by go_num, hB⟩
              case measure => simp [intOf]; omega
        · obtain rfl : q2 = 10 := by omega
          go_wp2_with fail
          go_roundw
          case rel => exact ⟨q + 1, by omega, by go_num, hB⟩
          case measure => simp [intOf]; omega
    · have d2 : ¬ (q : Int) < 10 := by omega
      go_wp2_with fail
      go_loopw [8] (fun i wr => ∃ c : Int, -1 ≤ c ∧ c ≤ 3 ∧ i = .int .i64 c ∧ Below W.heap.size W wr) (fun i _ => (3 - intOf i).toNat)
      case atStart => exact ⟨-1, by omega, by omega, rfl, hB⟩
      case round =>
        obtain ⟨c, h1, h2, rfl, hB⟩ := hrel
        by_cases hlt : c < 3
        · go_wp2_with fail
          refine (none_any c 0 1 kZ none 0 wr).mono ?_
          rintro e y1 ⟨rfl, hy1⟩
          have hB1 := below_on hB hy1
          go_wp2_with fail
          refine (plays_any c (some ⟨p4, 0, none⟩) 10 10 (kCals p p2) y1 (kCals_length p p2) (by unfold maxLen; omega) (HC.out.below hB1)).mono ?_
          rintro e y2 ⟨rfl, hy2⟩
          have hB2 := below_on hB1 hy2
          go_wp2_with fail
          go_roundw
          case rel => exact ⟨c + 1, by omega, by omega, by go_num, hB2⟩
          case measure => simp [intOf]; omega
        · obtain rfl : c = 3 := by omega
          obtain ⟨x0, x1, x2, x3, z0, z1, z2, z3⟩ := HX.out wr hB
          go_wp2_with fail
          refine name_calls ?_
          intro W3 hW3
          have hB3 : Below W.heap.size W W3 := by rw [hW3]; exact below_on hB (below1 _ _)
          have hl := HWY.out wr.heap.size W3 _ _ _ hB3 (by unfold kWays; rfl) (by rw [hW3]; exact heap_new1 _ _)
          clear hW3 x0 x1 x2 x3 z0 z1 z2 z3
          refine (same_law (some ⟨wr.heap.size, 0, none⟩) 10 10 (kWays p p2) W3 (by unfold kWays; rfl) (by unfold maxLen; omega) hl).mono ?_
          rintro e y1 ⟨rfl, hy1⟩
          go_wp2_with fail
          refine (works_any _).mono ?_
          rintro e y2 ⟨rfl, hy2⟩
          go_wp2_with fail
          go_ret
          exact ⟨rfl, below_on HB.out (below_on (below_on hB3 hy1) hy2)⟩
end Go.Proofs.Ytbbacmlcimgjbaa
