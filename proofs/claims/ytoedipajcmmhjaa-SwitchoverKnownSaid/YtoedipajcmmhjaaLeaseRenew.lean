/-
  Walks of package lease and of the document's answer for chapter 23: Renew.
-/
import Derived.Test.YtoedipajcmmhjaaLeaseAsked
namespace Go.Proofs.Ytoedipajcmmhjaa
open Go.RowKit
attribute [local irreducible] inB inL rightB okB ofR askR renewR giveR
attribute [local irreducible] askedR

set_option maxHeartbeats 4000000 in
theorem renew_any (E H U p n t : Int) (w : World) (hH1 : -9223372036854775808 ≤ H) (hH2 : H ≤ 9223372036854775807) :
    Calls Try.prog 22 #[.agg #[.int .i64 E, .int .i64 H, .int .i64 U], .int .i64 p, .int .i64 n, .int .i64 t] w fun e w' => e = .returned (.tuple #[.agg #[.int .i64 (renewR E H U p n t).e, .int .i64 (renewR E H U p n t).h, .int .i64 (renewR E H U p n t).u], .agg #[.int .i64 (renewR E H U p n t).ge, .int .i64 (renewR E H U p n t).gu], .int .i64 (renewR E H U p n t).er]) ∧ Below w.heap.size w w' := by
  cases hok : okB E H U p [n, t] with
  | false =>
    have HP : Hid (renewR E H U p n t = ⟨E, H, U, 0, 0, 2⟩) := Lib.hid (by unfold renewR; rw [if_neg (by rw [hok]; decide)])
    have HAR : Hid (askedR E H U p [n, t] = 2) := Lib.hid (by simp [askedR, hok])
    clear hok
    go_enter Try.func22, Try.ntmps22
    go_wp2_with fail
    refine (asked_is 2 E H U p [n, t] _ 2 _ _ hH1 hH2 HAR.out rfl (by omega) (nums_lit [n, t] rfl (alloc4 w (Obj.cells #[Value.int IntKind.i64 E, Value.int IntKind.i64 H, Value.int IntKind.i64 U] 31) (Obj.cells #[Value.int IntKind.i64 0, Value.int IntKind.i64 0, Value.int IntKind.i64 0] 31) (Obj.cells #[Value.int IntKind.i64 0, Value.int IntKind.i64 0] 43) (Obj.cells #[Value.int IntKind.i64 n, Value.int IntKind.i64 t] 2) (Below.refl _ _)).2.2.2)).mono ?_
    rintro e w1 ⟨rfl, hb1⟩
    have hB1 := below_on (below4 w (Obj.cells #[Value.int IntKind.i64 E, Value.int IntKind.i64 H, Value.int IntKind.i64 U] 31) (Obj.cells #[Value.int IntKind.i64 0, Value.int IntKind.i64 0, Value.int IntKind.i64 0] 31) (Obj.cells #[Value.int IntKind.i64 0, Value.int IntKind.i64 0] 43) (Obj.cells #[Value.int IntKind.i64 n, Value.int IntKind.i64 t] 2)) hb1
    obtain ⟨k0, k1, k2, k3⟩ := alloc4 _ _ _ _ _ hb1
    have hs1 : w.heap.size + 3 ≤ w1.heap.size := by have := hb1.size; simp at this; omega
    have a0 := blk_cell k0 0 _ rfl
    have a1 := blk_cell k0 1 _ rfl
    have a2 := blk_cell k0 2 _ rfl
    have b0 := blk_cell k1 0 _ rfl
    have b1 := blk_cell k1 1 _ rfl
    have b2 := blk_cell k1 2 _ rfl
    have c0 := blk_cell k2 0 _ rfl
    have c1 := blk_cell k2 1 _ rfl
    have f0 := blk_free k0
    have f1 := blk_free k1
    have f2 := blk_free k2
    clear k0 k1 k2 k3 hb1
    go_wp2_with fail
    refine bodyPost_ret (v := .tuple #[.agg #[.int .i64 E, .int .i64 H, .int .i64 U], .agg #[.int .i64 0, .int .i64 0], .int .i64 2]) (by simp [results, Try.results22, go_sem, *]) rfl ?_
    refine ⟨by rw [HP.out], ?_⟩
    repeat first
      | with_reducible exact hB1
      | ((with_reducible refine Below.setCell ?_ ?_ _); rotate_left; (dsimp only; omega))
      | with_reducible refine Below.drew ?_
  | true =>
    obtain ⟨hr, hp, hin⟩ := okB_true hok
    obtain ⟨r1, r2, r3, r4, r5, r6, r7⟩ := rightB_true hr
    rw [inL_two, Bool.and_eq_true] at hin
    obtain ⟨hin1, hin2⟩ := hin
    obtain ⟨i1, i2⟩ := inB_true hin2
    have hw2 : wrap64 (t + 8) = t + 8 := by unfold wrap64; omega
    have hv2 : IntKind.i64.wrap (t + 8) = t + 8 := by rw [IntWalk.i64_left]; exact hw2
    clear hin1 hin2 i1 i2
    have HAR : Hid (askedR E H U p [n, t] = 0) := Lib.hid (by simp [askedR, hok])
    clear hr hp r1 r2 r3 r4 r5 r6 r7
    by_cases hof : ofR E H p n = 0
    · by_cases hu : U < t
      · have HP : Hid (renewR E H U p n t = ⟨E, H, U, 0, 0, 231⟩) := Lib.hid (by unfold renewR; rw [if_pos hok, if_neg (fun h => h hof), if_pos hu])
        have d1 : decide (U < t) = true := decide_eq_true hu
        have HOF := Lib.hid hof
        clear hok hof hw2 hv2
        go_enter Try.func22, Try.ntmps22
        go_wp2_with fail
        refine (asked_is 0 E H U p [n, t] _ 2 _ _ hH1 hH2 HAR.out rfl (by omega) (nums_lit [n, t] rfl (alloc4 w (Obj.cells #[Value.int IntKind.i64 E, Value.int IntKind.i64 H, Value.int IntKind.i64 U] 31) (Obj.cells #[Value.int IntKind.i64 0, Value.int IntKind.i64 0, Value.int IntKind.i64 0] 31) (Obj.cells #[Value.int IntKind.i64 0, Value.int IntKind.i64 0] 43) (Obj.cells #[Value.int IntKind.i64 n, Value.int IntKind.i64 t] 2) (Below.refl _ _)).2.2.2)).mono ?_
        rintro e w1 ⟨rfl, hb1⟩
        have hB1 := below_on (below4 w (Obj.cells #[Value.int IntKind.i64 E, Value.int IntKind.i64 H, Value.int IntKind.i64 U] 31) (Obj.cells #[Value.int IntKind.i64 0, Value.int IntKind.i64 0, Value.int IntKind.i64 0] 31) (Obj.cells #[Value.int IntKind.i64 0, Value.int IntKind.i64 0] 43) (Obj.cells #[Value.int IntKind.i64 n, Value.int IntKind.i64 t] 2)) hb1
        obtain ⟨k0, k1, k2, k3⟩ := alloc4 _ _ _ _ _ hb1
        have hs1 : w.heap.size + 3 ≤ w1.heap.size := by have := hb1.size; simp at this; omega
        have a0 := blk_cell k0 0 _ rfl
        have a1 := blk_cell k0 1 _ rfl
        have a2 := blk_cell k0 2 _ rfl
        have b0 := blk_cell k1 0 _ rfl
        have b1 := blk_cell k1 1 _ rfl
        have b2 := blk_cell k1 2 _ rfl
        have c0 := blk_cell k2 0 _ rfl
        have c1 := blk_cell k2 1 _ rfl
        have f0 := blk_free k0
        have f1 := blk_free k1
        have f2 := blk_free k2
        clear k0 k1 k2 k3 hb1
        go_wp2_with fail
        refine (of_is 0 E H U p n _ HOF.out).mono ?_
        rintro e w2 ⟨rfl, hb2⟩
        have hB1 := below_on hB1 hb2
        have hs2 := hb2.size
        have g0 : ∀ i, w2.frozen? ⟨w.heap.size, i, none⟩ = false := fun i => by rw [hb2.frozen (p := ⟨w.heap.size, i, none⟩) (by dsimp only; omega)]; exact f0 i
        have g1 : ∀ i, w2.frozen? ⟨w.heap.size + 1, i, none⟩ = false := fun i => by rw [hb2.frozen (p := ⟨w.heap.size + 1, i, none⟩) (by dsimp only; omega)]; exact f1 i
        have g2 : ∀ i, w2.frozen? ⟨w.heap.size + 1 + 1, i, none⟩ = false := fun i => by rw [hb2.frozen (p := ⟨w.heap.size + 1 + 1, i, none⟩) (by dsimp only; omega)]; exact f2 i
        have A0 := cell_later hb2 a0
        have A1 := cell_later hb2 a1
        have A2 := cell_later hb2 a2
        have B0 := cell_later hb2 b0
        have B1 := cell_later hb2 b1
        have B2 := cell_later hb2 b2
        have C0 := cell_later hb2 c0
        have C1 := cell_later hb2 c1
        clear a0 a1 a2 b0 b1 b2 c0 c1 f0 f1 f2
        go_wp2_with fail
        refine bodyPost_ret (v := .tuple #[.agg #[.int .i64 E, .int .i64 H, .int .i64 U], .agg #[.int .i64 0, .int .i64 0], .int .i64 231]) (by simp [results, Try.results22, go_sem, *]) rfl ?_
        refine ⟨by rw [HP.out], ?_⟩
        repeat first
          | with_reducible exact hB1
          | ((with_reducible refine Below.setCell ?_ ?_ _); rotate_left; (dsimp only; omega))
          | with_reducible refine Below.drew ?_
      · by_cases hm : U < t + 8
        · have HP : Hid (renewR E H U p n t = ⟨E, H, t + 8, E, t + 8, 0⟩) := Lib.hid (by unfold renewR; rw [if_pos hok, if_neg (fun h => h hof), if_neg hu, Int.max_eq_right (by omega)])
          have d1 : decide (U < t) = false := decide_eq_false hu
          have HOF := Lib.hid hof
          clear hok hof
          go_enter Try.func22, Try.ntmps22
          go_wp2_with fail
          refine (asked_is 0 E H U p [n, t] _ 2 _ _ hH1 hH2 HAR.out rfl (by omega) (nums_lit [n, t] rfl (alloc4 w (Obj.cells #[Value.int IntKind.i64 E, Value.int IntKind.i64 H, Value.int IntKind.i64 U] 31) (Obj.cells #[Value.int IntKind.i64 0, Value.int IntKind.i64 0, Value.int IntKind.i64 0] 31) (Obj.cells #[Value.int IntKind.i64 0, Value.int IntKind.i64 0] 43) (Obj.cells #[Value.int IntKind.i64 n, Value.int IntKind.i64 t] 2) (Below.refl _ _)).2.2.2)).mono ?_
          rintro e w1 ⟨rfl, hb1⟩
          have hB1 := below_on (below4 w (Obj.cells #[Value.int IntKind.i64 E, Value.int IntKind.i64 H, Value.int IntKind.i64 U] 31) (Obj.cells #[Value.int IntKind.i64 0, Value.int IntKind.i64 0, Value.int IntKind.i64 0] 31) (Obj.cells #[Value.int IntKind.i64 0, Value.int IntKind.i64 0] 43) (Obj.cells #[Value.int IntKind.i64 n, Value.int IntKind.i64 t] 2)) hb1
          obtain ⟨k0, k1, k2, k3⟩ := alloc4 _ _ _ _ _ hb1
          have hs1 : w.heap.size + 3 ≤ w1.heap.size := by have := hb1.size; simp at this; omega
          have a0 := blk_cell k0 0 _ rfl
          have a1 := blk_cell k0 1 _ rfl
          have a2 := blk_cell k0 2 _ rfl
          have b0 := blk_cell k1 0 _ rfl
          have b1 := blk_cell k1 1 _ rfl
          have b2 := blk_cell k1 2 _ rfl
          have c0 := blk_cell k2 0 _ rfl
          have c1 := blk_cell k2 1 _ rfl
          have f0 := blk_free k0
          have f1 := blk_free k1
          have f2 := blk_free k2
          clear k0 k1 k2 k3 hb1
          go_wp2_with fail
          refine (of_is 0 E H U p n _ HOF.out).mono ?_
          rintro e w2 ⟨rfl, hb2⟩
          have hB1 := below_on hB1 hb2
          have hs2 := hb2.size
          have g0 : ∀ i, w2.frozen? ⟨w.heap.size, i, none⟩ = false := fun i => by rw [hb2.frozen (p := ⟨w.heap.size, i, none⟩) (by dsimp only; omega)]; exact f0 i
          have g1 : ∀ i, w2.frozen? ⟨w.heap.size + 1, i, none⟩ = false := fun i => by rw [hb2.frozen (p := ⟨w.heap.size + 1, i, none⟩) (by dsimp only; omega)]; exact f1 i
          have g2 : ∀ i, w2.frozen? ⟨w.heap.size + 1 + 1, i, none⟩ = false := fun i => by rw [hb2.frozen (p := ⟨w.heap.size + 1 + 1, i, none⟩) (by dsimp only; omega)]; exact f2 i
          have A0 := cell_later hb2 a0
          have A1 := cell_later hb2 a1
          have A2 := cell_later hb2 a2
          have B0 := cell_later hb2 b0
          have B1 := cell_later hb2 b1
          have B2 := cell_later hb2 b2
          have C0 := cell_later hb2 c0
          have C1 := cell_later hb2 c1
          clear a0 a1 a2 b0 b1 b2 c0 c1 f0 f1 f2
          go_wp2_with fail
          go_region
          all_goals
            go_wp2_with fail
            refine bodyPost_ret (v := .tuple #[.agg #[.int .i64 E, .int .i64 H, .int .i64 (t + 8)], .agg #[.int .i64 E, .int .i64 (t + 8)], .int .i64 0]) (by simp [results, Try.results22, go_sem, *]) rfl ?_
            refine ⟨by rw [HP.out], ?_⟩
            repeat first
              | with_reducible exact hB1
              | ((with_reducible refine Below.setCell ?_ ?_ _); rotate_left; (dsimp only; omega))
              | with_reducible refine Below.drew ?_
        · have HP : Hid (renewR E H U p n t = ⟨E, H, U, E, U, 0⟩) := Lib.hid (by unfold renewR; rw [if_pos hok, if_neg (fun h => h hof), if_neg hu, Int.max_eq_left (by omega)])
          have d1 : decide (U < t) = false := decide_eq_false hu
          have HOF := Lib.hid hof
          clear hok hof
          go_enter Try.func22, Try.ntmps22
          go_wp2_with fail
          refine (asked_is 0 E H U p [n, t] _ 2 _ _ hH1 hH2 HAR.out rfl (by omega) (nums_lit [n, t] rfl (alloc4 w (Obj.cells #[Value.int IntKind.i64 E, Value.int IntKind.i64 H, Value.int IntKind.i64 U] 31) (Obj.cells #[Value.int IntKind.i64 0, Value.int IntKind.i64 0, Value.int IntKind.i64 0] 31) (Obj.cells #[Value.int IntKind.i64 0, Value.int IntKind.i64 0] 43) (Obj.cells #[Value.int IntKind.i64 n, Value.int IntKind.i64 t] 2) (Below.refl _ _)).2.2.2)).mono ?_
          rintro e w1 ⟨rfl, hb1⟩
          have hB1 := below_on (below4 w (Obj.cells #[Value.int IntKind.i64 E, Value.int IntKind.i64 H, Value.int IntKind.i64 U] 31) (Obj.cells #[Value.int IntKind.i64 0, Value.int IntKind.i64 0, Value.int IntKind.i64 0] 31) (Obj.cells #[Value.int IntKind.i64 0, Value.int IntKind.i64 0] 43) (Obj.cells #[Value.int IntKind.i64 n, Value.int IntKind.i64 t] 2)) hb1
          obtain ⟨k0, k1, k2, k3⟩ := alloc4 _ _ _ _ _ hb1
          have hs1 : w.heap.size + 3 ≤ w1.heap.size := by have := hb1.size; simp at this; omega
          have a0 := blk_cell k0 0 _ rfl
          have a1 := blk_cell k0 1 _ rfl
          have a2 := blk_cell k0 2 _ rfl
          have b0 := blk_cell k1 0 _ rfl
          have b1 := blk_cell k1 1 _ rfl
          have b2 := blk_cell k1 2 _ rfl
          have c0 := blk_cell k2 0 _ rfl
          have c1 := blk_cell k2 1 _ rfl
          have f0 := blk_free k0
          have f1 := blk_free k1
          have f2 := blk_free k2
          clear k0 k1 k2 k3 hb1
          go_wp2_with fail
          refine (of_is 0 E H U p n _ HOF.out).mono ?_
          rintro e w2 ⟨rfl, hb2⟩
          have hB1 := below_on hB1 hb2
          have hs2 := hb2.size
          have g0 : ∀ i, w2.frozen? ⟨w.heap.size, i, none⟩ = false := fun i => by rw [hb2.frozen (p := ⟨w.heap.size, i, none⟩) (by dsimp only; omega)]; exact f0 i
          have g1 : ∀ i, w2.frozen? ⟨w.heap.size + 1, i, none⟩ = false := fun i => by rw [hb2.frozen (p := ⟨w.heap.size + 1, i, none⟩) (by dsimp only; omega)]; exact f1 i
          have g2 : ∀ i, w2.frozen? ⟨w.heap.size + 1 + 1, i, none⟩ = false := fun i => by rw [hb2.frozen (p := ⟨w.heap.size + 1 + 1, i, none⟩) (by dsimp only; omega)]; exact f2 i
          have A0 := cell_later hb2 a0
          have A1 := cell_later hb2 a1
          have A2 := cell_later hb2 a2
          have B0 := cell_later hb2 b0
          have B1 := cell_later hb2 b1
          have B2 := cell_later hb2 b2
          have C0 := cell_later hb2 c0
          have C1 := cell_later hb2 c1
          clear a0 a1 a2 b0 b1 b2 c0 c1 f0 f1 f2
          go_wp2_with fail
          go_region
          all_goals
            go_wp2_with fail
            refine bodyPost_ret (v := .tuple #[.agg #[.int .i64 E, .int .i64 H, .int .i64 U], .agg #[.int .i64 E, .int .i64 U], .int .i64 0]) (by simp [results, Try.results22, go_sem, *]) rfl ?_
            refine ⟨by rw [HP.out], ?_⟩
            repeat first
              | with_reducible exact hB1
              | ((with_reducible refine Below.setCell ?_ ?_ _); rotate_left; (dsimp only; omega))
              | with_reducible refine Below.drew ?_
    · obtain ⟨r, hr⟩ : ∃ r, ofR E H p n = r := ⟨_, rfl⟩
      have HP : Hid (renewR E H U p n t = ⟨E, H, U, 0, 0, r⟩) := Lib.hid (by unfold renewR; rw [if_pos hok, if_pos hof, hr])
      have HOF := Lib.hid hr
      have d2 : (r == 0) = false := by rw [← hr]; simpa using hof
      have d3 : (r != 0) = true := by rw [← hr]; simpa using hof
      clear hok hof hr hw2 hv2
      go_enter Try.func22, Try.ntmps22
      go_wp2_with fail
      refine (asked_is 0 E H U p [n, t] _ 2 _ _ hH1 hH2 HAR.out rfl (by omega) (nums_lit [n, t] rfl (alloc4 w (Obj.cells #[Value.int IntKind.i64 E, Value.int IntKind.i64 H, Value.int IntKind.i64 U] 31) (Obj.cells #[Value.int IntKind.i64 0, Value.int IntKind.i64 0, Value.int IntKind.i64 0] 31) (Obj.cells #[Value.int IntKind.i64 0, Value.int IntKind.i64 0] 43) (Obj.cells #[Value.int IntKind.i64 n, Value.int IntKind.i64 t] 2) (Below.refl _ _)).2.2.2)).mono ?_
      rintro e w1 ⟨rfl, hb1⟩
      have hB1 := below_on (below4 w (Obj.cells #[Value.int IntKind.i64 E, Value.int IntKind.i64 H, Value.int IntKind.i64 U] 31) (Obj.cells #[Value.int IntKind.i64 0, Value.int IntKind.i64 0, Value.int IntKind.i64 0] 31) (Obj.cells #[Value.int IntKind.i64 0, Value.int IntKind.i64 0] 43) (Obj.cells #[Value.int IntKind.i64 n, Value.int IntKind.i64 t] 2)) hb1
      obtain ⟨k0, k1, k2, k3⟩ := alloc4 _ _ _ _ _ hb1
      have hs1 : w.heap.size + 3 ≤ w1.heap.size := by have := hb1.size; simp at this; omega
      have a0 := blk_cell k0 0 _ rfl
      have a1 := blk_cell k0 1 _ rfl
      have a2 := blk_cell k0 2 _ rfl
      have b0 := blk_cell k1 0 _ rfl
      have b1 := blk_cell k1 1 _ rfl
      have b2 := blk_cell k1 2 _ rfl
      have c0 := blk_cell k2 0 _ rfl
      have c1 := blk_cell k2 1 _ rfl
      have f0 := blk_free k0
      have f1 := blk_free k1
      have f2 := blk_free k2
      clear k0 k1 k2 k3 hb1
      go_wp2_with fail
      refine (of_is r E H U p n _ HOF.out).mono ?_
      rintro e w2 ⟨rfl, hb2⟩
      have hB1 := below_on hB1 hb2
      have hs2 := hb2.size
      have g0 : ∀ i, w2.frozen? ⟨w.heap.size, i, none⟩ = false := fun i => by rw [hb2.frozen (p := ⟨w.heap.size, i, none⟩) (by dsimp only; omega)]; exact f0 i
      have g1 : ∀ i, w2.frozen? ⟨w.heap.size + 1, i, none⟩ = false := fun i => by rw [hb2.frozen (p := ⟨w.heap.size + 1, i, none⟩) (by dsimp only; omega)]; exact f1 i
      have g2 : ∀ i, w2.frozen? ⟨w.heap.size + 1 + 1, i, none⟩ = false := fun i => by rw [hb2.frozen (p := ⟨w.heap.size + 1 + 1, i, none⟩) (by dsimp only; omega)]; exact f2 i
      have A0 := cell_later hb2 a0
      have A1 := cell_later hb2 a1
      have A2 := cell_later hb2 a2
      have B0 := cell_later hb2 b0
      have B1 := cell_later hb2 b1
      have B2 := cell_later hb2 b2
      have C0 := cell_later hb2 c0
      have C1 := cell_later hb2 c1
      clear a0 a1 a2 b0 b1 b2 c0 c1 f0 f1 f2
      go_wp2_with fail
      refine bodyPost_ret (v := .tuple #[.agg #[.int .i64 E, .int .i64 H, .int .i64 U], .agg #[.int .i64 0, .int .i64 0], .int .i64 r]) (by simp [results, Try.results22, go_sem, *]) rfl ?_
      refine ⟨by rw [HP.out], ?_⟩
      repeat first
        | with_reducible exact hB1
        | ((with_reducible refine Below.setCell ?_ ?_ _); rotate_left; (dsimp only; omega))
        | with_reducible refine Below.drew ?_
end Go.Proofs.Ytoedipajcmmhjaa
