/-
  Walks of package lease and of the document's answer for chapter 23: the document on Ask.
-/
import Derived.Test.YtlcbliojggjjfaaLeaseAsked
namespace Go.Proofs.Ytlcbliojggjjfaa
open Go.RowKit
attribute [local irreducible] inB inL rightB okB ofR askR renewR giveR
attribute [local irreducible] askedR

set_option maxHeartbeats 4000000 in
theorem rask_any (E H U p t : Int) (w : World) (hH1 : -9223372036854775808 ≤ H) (hH2 : H ≤ 9223372036854775807) :
    Calls Try.prog 9 #[.agg #[.int .i64 E, .int .i64 H, .int .i64 U], .int .i64 p, .int .i64 t] w fun e w' => e = .returned (.tuple #[.agg #[.int .i64 (askR E H U p t).e, .int .i64 (askR E H U p t).h, .int .i64 (askR E H U p t).u], .int .i64 (askR E H U p t).ge, .int .i64 (askR E H U p t).gu, .int .i64 (askR E H U p t).er]) ∧ Below w.heap.size w w' := by
  cases hok : okB E H U p [t] with
  | false =>
    have HP : Hid (askR E H U p t = ⟨E, H, U, 0, 0, 2⟩) := Lib.hid (by simp [askR, hok])
    have HAR : Hid (okB E H U p [t, 0] = false) := Lib.hid (by rw [okB_zero]; exact hok)
    clear hok
    go_enter Try.func9, Try.ntmps9
    go_wp2_with fail
    refine (may_is false E H U p t 0 _ HAR.out).mono ?_
    rintro e w1 ⟨rfl, hb1⟩
    have hB1 := below_on (below2' w (Obj.cells #[Value.int IntKind.i64 E, Value.int IntKind.i64 H, Value.int IntKind.i64 U] 29) (Obj.cells #[Value.int IntKind.i64 0, Value.int IntKind.i64 0, Value.int IntKind.i64 0] 29)) hb1
    have k0 := blk_keep hb1 (alloc2' w (Obj.cells #[Value.int IntKind.i64 E, Value.int IntKind.i64 H, Value.int IntKind.i64 U] 29) (Obj.cells #[Value.int IntKind.i64 0, Value.int IntKind.i64 0, Value.int IntKind.i64 0] 29)).1
    have k1 := blk_keep hb1 (alloc2' w (Obj.cells #[Value.int IntKind.i64 E, Value.int IntKind.i64 H, Value.int IntKind.i64 U] 29) (Obj.cells #[Value.int IntKind.i64 0, Value.int IntKind.i64 0, Value.int IntKind.i64 0] 29)).2
    have hs1 : w.heap.size + 2 ≤ w1.heap.size := by have := hb1.size; simp at this; omega
    have a0 := blk_cell k0 0 _ rfl
    have a1 := blk_cell k0 1 _ rfl
    have a2 := blk_cell k0 2 _ rfl
    have b0 := blk_cell k1 0 _ rfl
    have b1 := blk_cell k1 1 _ rfl
    have b2 := blk_cell k1 2 _ rfl
    have f0 := blk_free k0
    have f1 := blk_free k1
    clear k0 k1 hb1
    go_wp2_with fail
    refine bodyPost_ret (v := .tuple #[.agg #[.int .i64 E, .int .i64 H, .int .i64 U], .int .i64 0, .int .i64 0, .int .i64 2]) (by simp [results, Try.results9, go_sem, *]) rfl ?_
    refine ⟨by rw [HP.out], ?_⟩
    repeat first
      | with_reducible exact hB1
      | ((with_reducible refine Below.setCell ?_ ?_ _); rotate_left; (dsimp only; omega))
      | with_reducible refine Below.drew ?_
  | true =>
    obtain ⟨hr, hp, hin⟩ := okB_true hok
    obtain ⟨r1, r2, r3, r4, r5, r6, r7⟩ := rightB_true hr
    rw [inL_one] at hin
    obtain ⟨i1, i2⟩ := inB_true hin
    have hw0 : wrap64 (1 - p) = 1 - p := by unfold wrap64; omega
    have hw1 : wrap64 (E + 1) = E + 1 := by unfold wrap64; omega
    have hw2 : wrap64 (t + 8) = t + 8 := by unfold wrap64; omega
    have hv1 : IntKind.i64.wrap (E + 1) = E + 1 := by rw [IntWalk.i64_left]; exact hw1
    have hv2 : IntKind.i64.wrap (t + 8) = t + 8 := by rw [IntWalk.i64_left]; exact hw2
    have HAR : Hid (okB E H U p [t, 0] = true) := Lib.hid (by rw [okB_zero]; exact hok)
    have hcond : (H = 1 - p ∧ t ≤ U) ↔ (0 ≤ H ∧ H ≠ p ∧ t ≤ U) := by omega
    obtain ⟨A, hA⟩ : ∃ A, decide (0 ≤ H) = A := ⟨_, rfl⟩
    obtain ⟨B, hB⟩ : ∃ B, (H != p) = B := ⟨_, rfl⟩
    obtain ⟨C, hC⟩ : ∃ C, decide (t ≤ U) = C := ⟨_, rfl⟩
    by_cases h1 : H = 1 - p ∧ t ≤ U
    · have HP : Hid (askR E H U p t = ⟨E, H, U, 0, 0, 231⟩) := Lib.hid (by unfold askR; rw [if_pos hok, if_pos h1])
      obtain ⟨x1, x2, x3⟩ := hcond.1 h1
      have d1 : decide (0 ≤ H) = true := decide_eq_true x1
      have d2 : (H != p) = true := by simpa using x2
      have d3 : decide (t ≤ U) = true := decide_eq_true x3
      clear h1 hcond hA hB hC x2
      clear hok hr hp hin r1 r2 r3 r4 r5 r6 r7 i1 i2
      go_enter Try.func9, Try.ntmps9
      go_wp2_with fail
      refine (may_is true E H U p t 0 _ HAR.out).mono ?_
      rintro e w1 ⟨rfl, hb1⟩
      have hB1 := below_on (below2' w (Obj.cells #[Value.int IntKind.i64 E, Value.int IntKind.i64 H, Value.int IntKind.i64 U] 29) (Obj.cells #[Value.int IntKind.i64 0, Value.int IntKind.i64 0, Value.int IntKind.i64 0] 29)) hb1
      have k0 := blk_keep hb1 (alloc2' w (Obj.cells #[Value.int IntKind.i64 E, Value.int IntKind.i64 H, Value.int IntKind.i64 U] 29) (Obj.cells #[Value.int IntKind.i64 0, Value.int IntKind.i64 0, Value.int IntKind.i64 0] 29)).1
      have k1 := blk_keep hb1 (alloc2' w (Obj.cells #[Value.int IntKind.i64 E, Value.int IntKind.i64 H, Value.int IntKind.i64 U] 29) (Obj.cells #[Value.int IntKind.i64 0, Value.int IntKind.i64 0, Value.int IntKind.i64 0] 29)).2
      have hs1 : w.heap.size + 2 ≤ w1.heap.size := by have := hb1.size; simp at this; omega
      have a0 := blk_cell k0 0 _ rfl
      have a1 := blk_cell k0 1 _ rfl
      have a2 := blk_cell k0 2 _ rfl
      have b0 := blk_cell k1 0 _ rfl
      have b1 := blk_cell k1 1 _ rfl
      have b2 := blk_cell k1 2 _ rfl
      have f0 := blk_free k0
      have f1 := blk_free k1
      clear k0 k1 hb1
      go_wp2_with fail
      refine bodyPost_ret (v := .tuple #[.agg #[.int .i64 E, .int .i64 H, .int .i64 U], .int .i64 0, .int .i64 0, .int .i64 231]) (by simp [results, Try.results9, go_sem, *]) rfl ?_
      refine ⟨by rw [HP.out], ?_⟩
      repeat first
        | with_reducible exact hB1
        | ((with_reducible refine Below.setCell ?_ ?_ _); rotate_left; (dsimp only; omega))
        | with_reducible refine Below.drew ?_
    · have hnot : (A && B && C) = false := by
        rw [← hA, ← hB, ← hC, Bool.eq_false_iff]
        intro h
        simp only [Bool.and_eq_true, decide_eq_true_eq, bne_iff_ne] at h
        exact h1 (hcond.2 ⟨h.1.1, h.1.2, h.2⟩)
      by_cases h3 : E = 1099511627776
      · have HP : Hid (askR E H U p t = ⟨E, H, U, 0, 0, 3⟩) := Lib.hid (by unfold askR; rw [if_pos hok, if_neg h1, if_pos h3])
        have d3 : (E == 1099511627776) = true := by simpa using h3
        clear h1 hcond h3
        rcases (show (A = false) ∨ (A = true ∧ B = false) ∨ (A = true ∧ B = true ∧ C = false) by revert hnot; cases A <;> cases B <;> cases C <;> simp) with rfl | ⟨rfl, rfl⟩ | ⟨rfl, rfl, rfl⟩
        all_goals
          clear hnot
          clear hok hr hp hin r1 r2 r3 r4 r5 r6 r7 i1 i2
          go_enter Try.func9, Try.ntmps9
          go_wp2_with fail
          refine (may_is true E H U p t 0 _ HAR.out).mono ?_
          rintro e w1 ⟨rfl, hb1⟩
          have hB1 := below_on (below2' w (Obj.cells #[Value.int IntKind.i64 E, Value.int IntKind.i64 H, Value.int IntKind.i64 U] 29) (Obj.cells #[Value.int IntKind.i64 0, Value.int IntKind.i64 0, Value.int IntKind.i64 0] 29)) hb1
          have k0 := blk_keep hb1 (alloc2' w (Obj.cells #[Value.int IntKind.i64 E, Value.int IntKind.i64 H, Value.int IntKind.i64 U] 29) (Obj.cells #[Value.int IntKind.i64 0, Value.int IntKind.i64 0, Value.int IntKind.i64 0] 29)).1
          have k1 := blk_keep hb1 (alloc2' w (Obj.cells #[Value.int IntKind.i64 E, Value.int IntKind.i64 H, Value.int IntKind.i64 U] 29) (Obj.cells #[Value.int IntKind.i64 0, Value.int IntKind.i64 0, Value.int IntKind.i64 0] 29)).2
          have hs1 : w.heap.size + 2 ≤ w1.heap.size := by have := hb1.size; simp at this; omega
          have a0 := blk_cell k0 0 _ rfl
          have a1 := blk_cell k0 1 _ rfl
          have a2 := blk_cell k0 2 _ rfl
          have b0 := blk_cell k1 0 _ rfl
          have b1 := blk_cell k1 1 _ rfl
          have b2 := blk_cell k1 2 _ rfl
          have f0 := blk_free k0
          have f1 := blk_free k1
          clear k0 k1 hb1
          go_wp2_with fail
          refine bodyPost_ret (v := .tuple #[.agg #[.int .i64 E, .int .i64 H, .int .i64 U], .int .i64 0, .int .i64 0, .int .i64 3]) (by simp [results, Try.results9, go_sem, *]) rfl ?_
          refine ⟨by rw [HP.out], ?_⟩
          repeat first
            | with_reducible exact hB1
            | ((with_reducible refine Below.setCell ?_ ?_ _); rotate_left; (dsimp only; omega))
            | with_reducible refine Below.drew ?_
      · have HP : Hid (askR E H U p t = ⟨E + 1, p, t + 8, E + 1, t + 8, 0⟩) := Lib.hid (by unfold askR; rw [if_pos hok, if_neg h1, if_neg h3])
        have d3 : (E == 1099511627776) = false := by simpa using h3
        clear h1 hcond h3
        rcases (show (A = false) ∨ (A = true ∧ B = false) ∨ (A = true ∧ B = true ∧ C = false) by revert hnot; cases A <;> cases B <;> cases C <;> simp) with rfl | ⟨rfl, rfl⟩ | ⟨rfl, rfl, rfl⟩
        all_goals
          clear hnot
          clear hok hr hp hin r1 r2 r3 r4 r5 r6 r7 i1 i2
          go_enter Try.func9, Try.ntmps9
          go_wp2_with fail
          refine (may_is true E H U p t 0 _ HAR.out).mono ?_
          rintro e w1 ⟨rfl, hb1⟩
          have hB1 := below_on (below2' w (Obj.cells #[Value.int IntKind.i64 E, Value.int IntKind.i64 H, Value.int IntKind.i64 U] 29) (Obj.cells #[Value.int IntKind.i64 0, Value.int IntKind.i64 0, Value.int IntKind.i64 0] 29)) hb1
          have k0 := blk_keep hb1 (alloc2' w (Obj.cells #[Value.int IntKind.i64 E, Value.int IntKind.i64 H, Value.int IntKind.i64 U] 29) (Obj.cells #[Value.int IntKind.i64 0, Value.int IntKind.i64 0, Value.int IntKind.i64 0] 29)).1
          have k1 := blk_keep hb1 (alloc2' w (Obj.cells #[Value.int IntKind.i64 E, Value.int IntKind.i64 H, Value.int IntKind.i64 U] 29) (Obj.cells #[Value.int IntKind.i64 0, Value.int IntKind.i64 0, Value.int IntKind.i64 0] 29)).2
          have hs1 : w.heap.size + 2 ≤ w1.heap.size := by have := hb1.size; simp at this; omega
          have a0 := blk_cell k0 0 _ rfl
          have a1 := blk_cell k0 1 _ rfl
          have a2 := blk_cell k0 2 _ rfl
          have b0 := blk_cell k1 0 _ rfl
          have b1 := blk_cell k1 1 _ rfl
          have b2 := blk_cell k1 2 _ rfl
          have f0 := blk_free k0
          have f1 := blk_free k1
          clear k0 k1 hb1
          go_wp2_with fail
          go_region
          all_goals
            go_wp2_with fail
            refine bodyPost_ret (v := .tuple #[.agg #[.int .i64 (E + 1), .int .i64 p, .int .i64 (t + 8)], .int .i64 (E + 1), .int .i64 (t + 8), .int .i64 0]) (by simp [results, Try.results9, go_sem, *]) rfl ?_
            refine ⟨by rw [HP.out], ?_⟩
            repeat first
              | with_reducible exact hB1
              | ((with_reducible refine Below.setCell ?_ ?_ _); rotate_left; (dsimp only; omega))
              | with_reducible refine Below.drew ?_
end Go.Proofs.Ytlcbliojggjjfaa
