/-
  Walks of package lease and of the document's answer for chapter 23: Give.
-/
import Derived.Test.YtlcbliojggjjfaaLeaseAsked
namespace Go.Proofs.Ytlcbliojggjjfaa
open Go.RowKit
attribute [local irreducible] inB inL rightB okB ofR askR renewR giveR
attribute [local irreducible] askedR

set_option maxHeartbeats 4000000 in
theorem give_any (E H U p n : Int) (w : World) (hH1 : -9223372036854775808 ≤ H) (hH2 : H ≤ 9223372036854775807) :
    Calls Try.prog 15 #[.agg #[.int .i64 E, .int .i64 H, .int .i64 U], .int .i64 p, .int .i64 n] w fun e w' => e = .returned (.tuple #[.agg #[.int .i64 (giveR E H U p n).e, .int .i64 (giveR E H U p n).h, .int .i64 (giveR E H U p n).u], .int .i64 (giveR E H U p n).er]) ∧ Below w.heap.size w w' := by
  cases hok : okB E H U p [n] with
  | false =>
    have HP : Hid (giveR E H U p n = ⟨E, H, U, 0, 0, 2⟩) := Lib.hid (by unfold giveR; rw [if_neg (by rw [hok]; decide)])
    have HAR : Hid (askedR E H U p [n] = 2) := Lib.hid (by simp [askedR, hok])
    clear hok
    go_enter Try.func15, Try.ntmps15
    go_wp2_with fail
    refine (asked_is 2 E H U p [n] _ 1 _ _ hH1 hH2 HAR.out rfl (by omega) (nums_lit [n] rfl (alloc3 w (Obj.cells #[Value.int IntKind.i64 E, Value.int IntKind.i64 H, Value.int IntKind.i64 U] 23) (Obj.cells #[Value.int IntKind.i64 0, Value.int IntKind.i64 0, Value.int IntKind.i64 0] 23) (Obj.cells #[Value.int IntKind.i64 n] 2) (Below.refl _ _)).2.2)).mono ?_
    rintro e w1 ⟨rfl, hb1⟩
    have hB1 := below_on (below3 w (Obj.cells #[Value.int IntKind.i64 E, Value.int IntKind.i64 H, Value.int IntKind.i64 U] 23) (Obj.cells #[Value.int IntKind.i64 0, Value.int IntKind.i64 0, Value.int IntKind.i64 0] 23) (Obj.cells #[Value.int IntKind.i64 n] 2)) hb1
    obtain ⟨k0, k1, k3⟩ := alloc3 _ _ _ _ hb1
    have hs1 : w.heap.size + 3 ≤ w1.heap.size := by have := hb1.size; simp at this; omega
    have a0 := blk_cell k0 0 _ rfl
    have a1 := blk_cell k0 1 _ rfl
    have a2 := blk_cell k0 2 _ rfl
    have b0 := blk_cell k1 0 _ rfl
    have b1 := blk_cell k1 1 _ rfl
    have b2 := blk_cell k1 2 _ rfl
    have f0 := blk_free k0
    have f1 := blk_free k1
    clear k0 k1 k3 hb1
    go_wp2_with fail
    refine bodyPost_ret (v := .tuple #[.agg #[.int .i64 E, .int .i64 H, .int .i64 U], .int .i64 2]) (by simp [results, Try.results15, go_sem, *]) rfl ?_
    refine ⟨by rw [HP.out], ?_⟩
    repeat first
      | with_reducible exact hB1
      | ((with_reducible refine Below.setCell ?_ ?_ _); rotate_left; (dsimp only; omega))
      | with_reducible refine Below.drew ?_
  | true =>
    obtain ⟨hr, hp, hin⟩ := okB_true hok
    obtain ⟨r1, r2, r3, r4, r5, r6, r7⟩ := rightB_true hr
    clear hin
    have HAR : Hid (askedR E H U p [n] = 0) := Lib.hid (by simp [askedR, hok])
    clear hr hp r1 r2 r3 r4 r5 r6 r7
    by_cases hof : ofR E H p n = 0
    · have HP : Hid (giveR E H U p n = ⟨E, -1, U, 0, 0, 0⟩) := Lib.hid (by unfold giveR; rw [if_pos hok, if_neg (fun h => h hof)])
      have HOF := Lib.hid hof
      clear hok hof
      go_enter Try.func15, Try.ntmps15
      go_wp2_with fail
      refine (asked_is 0 E H U p [n] _ 1 _ _ hH1 hH2 HAR.out rfl (by omega) (nums_lit [n] rfl (alloc3 w (Obj.cells #[Value.int IntKind.i64 E, Value.int IntKind.i64 H, Value.int IntKind.i64 U] 23) (Obj.cells #[Value.int IntKind.i64 0, Value.int IntKind.i64 0, Value.int IntKind.i64 0] 23) (Obj.cells #[Value.int IntKind.i64 n] 2) (Below.refl _ _)).2.2)).mono ?_
      rintro e w1 ⟨rfl, hb1⟩
      have hB1 := below_on (below3 w (Obj.cells #[Value.int IntKind.i64 E, Value.int IntKind.i64 H, Value.int IntKind.i64 U] 23) (Obj.cells #[Value.int IntKind.i64 0, Value.int IntKind.i64 0, Value.int IntKind.i64 0] 23) (Obj.cells #[Value.int IntKind.i64 n] 2)) hb1
      obtain ⟨k0, k1, k3⟩ := alloc3 _ _ _ _ hb1
      have hs1 : w.heap.size + 3 ≤ w1.heap.size := by have := hb1.size; simp at this; omega
      have a0 := blk_cell k0 0 _ rfl
      have a1 := blk_cell k0 1 _ rfl
      have a2 := blk_cell k0 2 _ rfl
      have b0 := blk_cell k1 0 _ rfl
      have b1 := blk_cell k1 1 _ rfl
      have b2 := blk_cell k1 2 _ rfl
      have f0 := blk_free k0
      have f1 := blk_free k1
      clear k0 k1 k3 hb1
      go_wp2_with fail
      refine (of_is 0 E H U p n _ HOF.out).mono ?_
      rintro e w2 ⟨rfl, hb2⟩
      have hB1 := below_on hB1 hb2
      have hs2 := hb2.size
      have g0 : ∀ i, w2.frozen? ⟨w.heap.size, i, none⟩ = false := fun i => by rw [hb2.frozen (p := ⟨w.heap.size, i, none⟩) (by dsimp only; omega)]; exact f0 i
      have g1 : ∀ i, w2.frozen? ⟨w.heap.size + 1, i, none⟩ = false := fun i => by rw [hb2.frozen (p := ⟨w.heap.size + 1, i, none⟩) (by dsimp only; omega)]; exact f1 i
      have A0 := cell_later hb2 a0
      have A1 := cell_later hb2 a1
      have A2 := cell_later hb2 a2
      have B0 := cell_later hb2 b0
      have B1 := cell_later hb2 b1
      have B2 := cell_later hb2 b2
      clear a0 a1 a2 b0 b1 b2 f0 f1
      go_wp2_with fail
      refine bodyPost_ret (v := .tuple #[.agg #[.int .i64 E, .int .i64 (-1), .int .i64 U], .int .i64 0]) (by simp [results, Try.results15, go_sem, *]) rfl ?_
      refine ⟨by rw [HP.out], ?_⟩
      repeat first
        | with_reducible exact hB1
        | ((with_reducible refine Below.setCell ?_ ?_ _); rotate_left; (dsimp only; omega))
        | with_reducible refine Below.drew ?_
    · obtain ⟨r, hr⟩ : ∃ r, ofR E H p n = r := ⟨_, rfl⟩
      have HP : Hid (giveR E H U p n = ⟨E, H, U, 0, 0, r⟩) := Lib.hid (by unfold giveR; rw [if_pos hok, if_pos hof, hr])
      have HOF := Lib.hid hr
      have d2 : (r == 0) = false := by rw [← hr]; simpa using hof
      have d3 : (r != 0) = true := by rw [← hr]; simpa using hof
      clear hok hof hr
      go_enter Try.func15, Try.ntmps15
      go_wp2_with fail
      refine (asked_is 0 E H U p [n] _ 1 _ _ hH1 hH2 HAR.out rfl (by omega) (nums_lit [n] rfl (alloc3 w (Obj.cells #[Value.int IntKind.i64 E, Value.int IntKind.i64 H, Value.int IntKind.i64 U] 23) (Obj.cells #[Value.int IntKind.i64 0, Value.int IntKind.i64 0, Value.int IntKind.i64 0] 23) (Obj.cells #[Value.int IntKind.i64 n] 2) (Below.refl _ _)).2.2)).mono ?_
      rintro e w1 ⟨rfl, hb1⟩
      have hB1 := below_on (below3 w (Obj.cells #[Value.int IntKind.i64 E, Value.int IntKind.i64 H, Value.int IntKind.i64 U] 23) (Obj.cells #[Value.int IntKind.i64 0, Value.int IntKind.i64 0, Value.int IntKind.i64 0] 23) (Obj.cells #[Value.int IntKind.i64 n] 2)) hb1
      obtain ⟨k0, k1, k3⟩ := alloc3 _ _ _ _ hb1
      have hs1 : w.heap.size + 3 ≤ w1.heap.size := by have := hb1.size; simp at this; omega
      have a0 := blk_cell k0 0 _ rfl
      have a1 := blk_cell k0 1 _ rfl
      have a2 := blk_cell k0 2 _ rfl
      have b0 := blk_cell k1 0 _ rfl
      have b1 := blk_cell k1 1 _ rfl
      have b2 := blk_cell k1 2 _ rfl
      have f0 := blk_free k0
      have f1 := blk_free k1
      clear k0 k1 k3 hb1
      go_wp2_with fail
      refine (of_is r E H U p n _ HOF.out).mono ?_
      rintro e w2 ⟨rfl, hb2⟩
      have hB1 := below_on hB1 hb2
      have hs2 := hb2.size
      have g0 : ∀ i, w2.frozen? ⟨w.heap.size, i, none⟩ = false := fun i => by rw [hb2.frozen (p := ⟨w.heap.size, i, none⟩) (by dsimp only; omega)]; exact f0 i
      have g1 : ∀ i, w2.frozen? ⟨w.heap.size + 1, i, none⟩ = false := fun i => by rw [hb2.frozen (p := ⟨w.heap.size + 1, i, none⟩) (by dsimp only; omega)]; exact f1 i
      have A0 := cell_later hb2 a0
      have A1 := cell_later hb2 a1
      have A2 := cell_later hb2 a2
      have B0 := cell_later hb2 b0
      have B1 := cell_later hb2 b1
      have B2 := cell_later hb2 b2
      clear a0 a1 a2 b0 b1 b2 f0 f1
      go_wp2_with fail
      refine bodyPost_ret (v := .tuple #[.agg #[.int .i64 E, .int .i64 H, .int .i64 U], .int .i64 r]) (by simp [results, Try.results15, go_sem, *]) rfl ?_
      refine ⟨by rw [HP.out], ?_⟩
      repeat first
        | with_reducible exact hB1
        | ((with_reducible refine Below.setCell ?_ ?_ _); rotate_left; (dsimp only; omega))
        | with_reducible refine Below.drew ?_
end Go.Proofs.Ytlcbliojggjjfaa
