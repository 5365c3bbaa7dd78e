/-
  Walks of package lease and of the document's answer for chapter 23: RGive.
-/
import Derived.Test.YtlcbliojggjjfaaLeaseAsked
namespace Go.Proofs.Ytlcbliojggjjfaa
open Go.RowKit
attribute [local irreducible] inB inL rightB okB ofR askR renewR giveR
attribute [local irreducible] askedR

set_option maxHeartbeats 4000000 in
theorem rgive_any (E H U p n : Int) (w : World)  :
    Calls Try.prog 16 #[.agg #[.int .i64 E, .int .i64 H, .int .i64 U], .int .i64 p, .int .i64 n] w fun e w' => e = .returned (.tuple #[.agg #[.int .i64 (giveR E H U p n).e, .int .i64 (giveR E H U p n).h, .int .i64 (giveR E H U p n).u], .int .i64 (giveR E H U p n).er]) ∧ Below w.heap.size w w' := by
  cases hok : okB E H U p [n] with
  | false =>
    have HP : Hid (giveR E H U p n = ⟨E, H, U, 0, 0, 2⟩) := Lib.hid (by unfold giveR; rw [if_neg (by rw [hok]; decide)])
    have HAR : Hid (okB E H U p [n, 0] = false) := Lib.hid (by rw [okB_zero]; exact hok)
    clear hok
    go_enter Try.func16, Try.ntmps16
    go_wp2_with fail
    refine (may_is false E H U p n 0 _ HAR.out).mono ?_
    rintro e w1 ⟨rfl, hb1⟩
    have hB1 := below_on (below2' w (Obj.cells #[Value.int IntKind.i64 E, Value.int IntKind.i64 H, Value.int IntKind.i64 U] 29) (Obj.cells #[Value.int IntKind.i64 0, Value.int IntKind.i64 0, Value.int IntKind.i64 0] 29)) hb1
    have k0 := blk_keep hb1 (alloc2' w (Obj.cells #[Value.int IntKind.i64 E, Value.int IntKind.i64 H, Value.int IntKind.i64 U] 29) (Obj.cells #[Value.int IntKind.i64 0, Value.int IntKind.i64 0, Value.int IntKind.i64 0] 29)).1
    have k1 := blk_keep hb1 (alloc2' w (Obj.cells #[Value.int IntKind.i64 E, Value.int IntKind.i64 H, Value.int IntKind.i64 U] 29) (Obj.cells #[Value.int IntKind.i64 0, Value.int IntKind.i64 0, Value.int IntKind.i64 0] 29)).2
    have hs1 : w.heap.size + 2 ≤ w1.heap.size := by have := hb1.size; simp at this; omega
    have a0 := blk_cell k0 0 _ rfl
    have a1 := blk_cell k0 1 _ rfl
    have a2 := blk_cell k0 2 _ rfl
    have b0 := blk_cell k1 0 _ rfl
    have b1 := blk_cell k1 1 _ rfl
    have b2 := blk_cell k1 2 _ rfl
    have f0 := blk_free k0
    have f1 := blk_free k1
    clear k0 k1 hb1
    go_wp2_with fail
    refine bodyPost_ret (v := .tuple #[.agg #[.int .i64 E, .int .i64 H, .int .i64 U], .int .i64 2]) (by simp [results, Try.results16, go_sem, *]) rfl ?_
    refine ⟨by rw [HP.out], ?_⟩
    repeat first
      | with_reducible exact hB1
      | ((with_reducible refine Below.setCell ?_ ?_ _); rotate_left; (dsimp only; omega))
      | with_reducible refine Below.drew ?_
  | true =>
    obtain ⟨hr, hp, hin⟩ := okB_true hok
    obtain ⟨r1, r2, r3, r4, r5, r6, r7⟩ := rightB_true hr
    clear hin
    have HAR : Hid (okB E H U p [n, 0] = true) := Lib.hid (by rw [okB_zero]; exact hok)
    clear hr hp r1 r2 r3 r4 r5 r6 r7
    by_cases h1 : n < E
    · skip
      have e0 : ofR E H p n = 230 := by simp [ofR, h1]
      have HP : Hid (giveR E H U p n = ⟨E, H, U, 0, 0, 230⟩) := Lib.hid (by unfold giveR; rw [if_pos hok, if_pos (by rw [e0]; decide), e0])
      clear e0
      clear hok
      go_enter Try.func16, Try.ntmps16
      go_wp2_with fail
      refine (may_is true E H U p n 0 _ HAR.out).mono ?_
      rintro e w1 ⟨rfl, hb1⟩
      have hB1 := below_on (below2' w (Obj.cells #[Value.int IntKind.i64 E, Value.int IntKind.i64 H, Value.int IntKind.i64 U] 29) (Obj.cells #[Value.int IntKind.i64 0, Value.int IntKind.i64 0, Value.int IntKind.i64 0] 29)) hb1
      have k0 := blk_keep hb1 (alloc2' w (Obj.cells #[Value.int IntKind.i64 E, Value.int IntKind.i64 H, Value.int IntKind.i64 U] 29) (Obj.cells #[Value.int IntKind.i64 0, Value.int IntKind.i64 0, Value.int IntKind.i64 0] 29)).1
      have k1 := blk_keep hb1 (alloc2' w (Obj.cells #[Value.int IntKind.i64 E, Value.int IntKind.i64 H, Value.int IntKind.i64 U] 29) (Obj.cells #[Value.int IntKind.i64 0, Value.int IntKind.i64 0, Value.int IntKind.i64 0] 29)).2
      have hs1 : w.heap.size + 2 ≤ w1.heap.size := by have := hb1.size; simp at this; omega
      have a0 := blk_cell k0 0 _ rfl
      have a1 := blk_cell k0 1 _ rfl
      have a2 := blk_cell k0 2 _ rfl
      have b0 := blk_cell k1 0 _ rfl
      have b1 := blk_cell k1 1 _ rfl
      have b2 := blk_cell k1 2 _ rfl
      have f0 := blk_free k0
      have f1 := blk_free k1
      clear k0 k1 hb1
      go_wp2_with fail
      refine bodyPost_ret (v := .tuple #[.agg #[.int .i64 E, .int .i64 H, .int .i64 U], .int .i64 230]) (by simp [results, Try.results16, go_sem, *]) rfl ?_
      refine ⟨by rw [HP.out], ?_⟩
      repeat first
        | with_reducible exact hB1
        | ((with_reducible refine Below.setCell ?_ ?_ _); rotate_left; (dsimp only; omega))
        | with_reducible refine Below.drew ?_
    have d1 : decide (n < E) = false := decide_eq_false h1
    by_cases h2 : E < n
    · skip
      have e0 : ofR E H p n = 231 := by simp [ofR, h1, h2]
      have HP : Hid (giveR E H U p n = ⟨E, H, U, 0, 0, 231⟩) := Lib.hid (by unfold giveR; rw [if_pos hok, if_pos (by rw [e0]; decide), e0])
      clear e0
      clear hok
      go_enter Try.func16, Try.ntmps16
      go_wp2_with fail
      refine (may_is true E H U p n 0 _ HAR.out).mono ?_
      rintro e w1 ⟨rfl, hb1⟩
      have hB1 := below_on (below2' w (Obj.cells #[Value.int IntKind.i64 E, Value.int IntKind.i64 H, Value.int IntKind.i64 U] 29) (Obj.cells #[Value.int IntKind.i64 0, Value.int IntKind.i64 0, Value.int IntKind.i64 0] 29)) hb1
      have k0 := blk_keep hb1 (alloc2' w (Obj.cells #[Value.int IntKind.i64 E, Value.int IntKind.i64 H, Value.int IntKind.i64 U] 29) (Obj.cells #[Value.int IntKind.i64 0, Value.int IntKind.i64 0, Value.int IntKind.i64 0] 29)).1
      have k1 := blk_keep hb1 (alloc2' w (Obj.cells #[Value.int IntKind.i64 E, Value.int IntKind.i64 H, Value.int IntKind.i64 U] 29) (Obj.cells #[Value.int IntKind.i64 0, Value.int IntKind.i64 0, Value.int IntKind.i64 0] 29)).2
      have hs1 : w.heap.size + 2 ≤ w1.heap.size := by have := hb1.size; simp at this; omega
      have a0 := blk_cell k0 0 _ rfl
      have a1 := blk_cell k0 1 _ rfl
      have a2 := blk_cell k0 2 _ rfl
      have b0 := blk_cell k1 0 _ rfl
      have b1 := blk_cell k1 1 _ rfl
      have b2 := blk_cell k1 2 _ rfl
      have f0 := blk_free k0
      have f1 := blk_free k1
      clear k0 k1 hb1
      go_wp2_with fail
      refine bodyPost_ret (v := .tuple #[.agg #[.int .i64 E, .int .i64 H, .int .i64 U], .int .i64 231]) (by simp [results, Try.results16, go_sem, *]) rfl ?_
      refine ⟨by rw [HP.out], ?_⟩
      repeat first
        | with_reducible exact hB1
        | ((with_reducible refine Below.setCell ?_ ?_ _); rotate_left; (dsimp only; omega))
        | with_reducible refine Below.drew ?_
    have d2 : decide (E < n) = false := decide_eq_false h2
    by_cases h3 : p = H
    · skip
      have e0 : ofR E H p n = 0 := by simp [ofR, h1, h2, h3]
      have d3 : (H != p) = false := by simpa using h3.symm
      have d4 : (H == p) = true := by simpa using h3.symm
      clear h3
      have HP : Hid (giveR E H U p n = ⟨E, -1, U, 0, 0, 0⟩) := Lib.hid (by unfold giveR; rw [if_pos hok, if_neg (fun h => h e0)])
      clear e0
      clear hok
      go_enter Try.func16, Try.ntmps16
      go_wp2_with fail
      refine (may_is true E H U p n 0 _ HAR.out).mono ?_
      rintro e w1 ⟨rfl, hb1⟩
      have hB1 := below_on (below2' w (Obj.cells #[Value.int IntKind.i64 E, Value.int IntKind.i64 H, Value.int IntKind.i64 U] 29) (Obj.cells #[Value.int IntKind.i64 0, Value.int IntKind.i64 0, Value.int IntKind.i64 0] 29)) hb1
      have k0 := blk_keep hb1 (alloc2' w (Obj.cells #[Value.int IntKind.i64 E, Value.int IntKind.i64 H, Value.int IntKind.i64 U] 29) (Obj.cells #[Value.int IntKind.i64 0, Value.int IntKind.i64 0, Value.int IntKind.i64 0] 29)).1
      have k1 := blk_keep hb1 (alloc2' w (Obj.cells #[Value.int IntKind.i64 E, Value.int IntKind.i64 H, Value.int IntKind.i64 U] 29) (Obj.cells #[Value.int IntKind.i64 0, Value.int IntKind.i64 0, Value.int IntKind.i64 0] 29)).2
      have hs1 : w.heap.size + 2 ≤ w1.heap.size := by have := hb1.size; simp at this; omega
      have a0 := blk_cell k0 0 _ rfl
      have a1 := blk_cell k0 1 _ rfl
      have a2 := blk_cell k0 2 _ rfl
      have b0 := blk_cell k1 0 _ rfl
      have b1 := blk_cell k1 1 _ rfl
      have b2 := blk_cell k1 2 _ rfl
      have f0 := blk_free k0
      have f1 := blk_free k1
      clear k0 k1 hb1
      go_wp2_with fail
      refine bodyPost_ret (v := .tuple #[.agg #[.int .i64 E, .int .i64 (-1), .int .i64 U], .int .i64 0]) (by simp [results, Try.results16, go_sem, *]) rfl ?_
      refine ⟨by rw [HP.out], ?_⟩
      repeat first
        | with_reducible exact hB1
        | ((with_reducible refine Below.setCell ?_ ?_ _); rotate_left; (dsimp only; omega))
        | with_reducible refine Below.drew ?_
    · skip
      have d3 : (H != p) = true := by simpa using fun h => h3 h.symm
      have d4 : (H == p) = false := by simpa using fun h => h3 h.symm
      have e0 : ofR E H p n = 231 := by simp [ofR, h1, h2, h3]
      have HP : Hid (giveR E H U p n = ⟨E, H, U, 0, 0, 231⟩) := Lib.hid (by unfold giveR; rw [if_pos hok, if_pos (by rw [e0]; decide), e0])
      clear e0
      clear h3
      clear hok
      go_enter Try.func16, Try.ntmps16
      go_wp2_with fail
      refine (may_is true E H U p n 0 _ HAR.out).mono ?_
      rintro e w1 ⟨rfl, hb1⟩
      have hB1 := below_on (below2' w (Obj.cells #[Value.int IntKind.i64 E, Value.int IntKind.i64 H, Value.int IntKind.i64 U] 29) (Obj.cells #[Value.int IntKind.i64 0, Value.int IntKind.i64 0, Value.int IntKind.i64 0] 29)) hb1
      have k0 := blk_keep hb1 (alloc2' w (Obj.cells #[Value.int IntKind.i64 E, Value.int IntKind.i64 H, Value.int IntKind.i64 U] 29) (Obj.cells #[Value.int IntKind.i64 0, Value.int IntKind.i64 0, Value.int IntKind.i64 0] 29)).1
      have k1 := blk_keep hb1 (alloc2' w (Obj.cells #[Value.int IntKind.i64 E, Value.int IntKind.i64 H, Value.int IntKind.i64 U] 29) (Obj.cells #[Value.int IntKind.i64 0, Value.int IntKind.i64 0, Value.int IntKind.i64 0] 29)).2
      have hs1 : w.heap.size + 2 ≤ w1.heap.size := by have := hb1.size; simp at this; omega
      have a0 := blk_cell k0 0 _ rfl
      have a1 := blk_cell k0 1 _ rfl
      have a2 := blk_cell k0 2 _ rfl
      have b0 := blk_cell k1 0 _ rfl
      have b1 := blk_cell k1 1 _ rfl
      have b2 := blk_cell k1 2 _ rfl
      have f0 := blk_free k0
      have f1 := blk_free k1
      clear k0 k1 hb1
      go_wp2_with fail
      refine bodyPost_ret (v := .tuple #[.agg #[.int .i64 E, .int .i64 H, .int .i64 U], .int .i64 231]) (by simp [results, Try.results16, go_sem, *]) rfl ?_
      refine ⟨by rw [HP.out], ?_⟩
      repeat first
        | with_reducible exact hB1
        | ((with_reducible refine Below.setCell ?_ ?_ _); rotate_left; (dsimp only; omega))
        | with_reducible refine Below.drew ?_
end Go.Proofs.Ytlcbliojggjjfaa
