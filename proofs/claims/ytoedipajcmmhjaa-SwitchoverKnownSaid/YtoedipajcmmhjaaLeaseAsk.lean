/-
  Walks of package lease and of the document's answer for chapter 23: Ask.
-/
import Derived.Test.YtoedipajcmmhjaaLeaseAsked
namespace Go.Proofs.Ytoedipajcmmhjaa
open Go.RowKit
attribute [local irreducible] inB inL rightB okB ofR askR renewR giveR
attribute [local irreducible] askedR

set_option maxHeartbeats 4000000 in
theorem ask_any (E H U p t : Int) (w : World) (hH1 : -9223372036854775808 ≤ H) (hH2 : H ≤ 9223372036854775807) :
    Calls Try.prog 21 #[.agg #[.int .i64 E, .int .i64 H, .int .i64 U], .int .i64 p, .int .i64 t] w fun e w' => e = .returned (.tuple #[.agg #[.int .i64 (askR E H U p t).e, .int .i64 (askR E H U p t).h, .int .i64 (askR E H U p t).u], .agg #[.int .i64 (askR E H U p t).ge, .int .i64 (askR E H U p t).gu], .int .i64 (askR E H U p t).er]) ∧ Below w.heap.size w w' := by
  cases hok : okB E H U p [t] with
  | false =>
    have HP : Hid (askR E H U p t = ⟨E, H, U, 0, 0, 2⟩) := Lib.hid (by simp [askR, hok])
    have HAR : Hid (askedR E H U p [t] = 2) := Lib.hid (by simp [askedR, hok])
    clear hok
    go_enter Try.func21, Try.ntmps21
    go_wp2_with fail
    refine (asked_is 2 E H U p [t] _ 1 _ _ hH1 hH2 HAR.out rfl (by omega) (nums_lit [t] rfl (alloc4 w (Obj.cells #[Value.int IntKind.i64 E, Value.int IntKind.i64 H, Value.int IntKind.i64 U] 31) (Obj.cells #[Value.int IntKind.i64 0, Value.int IntKind.i64 0, Value.int IntKind.i64 0] 31) (Obj.cells #[Value.int IntKind.i64 0, Value.int IntKind.i64 0] 43) (Obj.cells #[Value.int IntKind.i64 t] 2) (Below.refl _ _)).2.2.2)).mono ?_
    rintro e w1 ⟨rfl, hb1⟩
    have hB1 := below_on (below4 w (Obj.cells #[Value.int IntKind.i64 E, Value.int IntKind.i64 H, Value.int IntKind.i64 U] 31) (Obj.cells #[Value.int IntKind.i64 0, Value.int IntKind.i64 0, Value.int IntKind.i64 0] 31) (Obj.cells #[Value.int IntKind.i64 0, Value.int IntKind.i64 0] 43) (Obj.cells #[Value.int IntKind.i64 t] 2)) hb1
    obtain ⟨k0, k1, k2, k3⟩ := alloc4 _ _ _ _ _ hb1
    have hs1 : w.heap.size + 3 ≤ w1.heap.size := by have := hb1.size; simp at this; omega
    have a0 := blk_cell k0 0 _ rfl
    have a1 := blk_cell k0 1 _ rfl
    have a2 := blk_cell k0 2 _ rfl
    have b0 := blk_cell k1 0 _ rfl
    have b1 := blk_cell k1 1 _ rfl
    have b2 := blk_cell k1 2 _ rfl
    have c0 := blk_cell k2 0 _ rfl
    have c1 := blk_cell k2 1 _ rfl
    have f0 := blk_free k0
    have f1 := blk_free k1
    have f2 := blk_free k2
    clear k0 k1 k2 k3 hb1
    go_wp2_with fail
    refine bodyPost_ret (v := .tuple #[.agg #[.int .i64 E, .int .i64 H, .int .i64 U], .agg #[.int .i64 0, .int .i64 0], .int .i64 2]) (by simp [results, Try.results21, go_sem, *]) rfl ?_
    refine ⟨by rw [HP.out], ?_⟩
    repeat first
      | with_reducible exact hB1
      | ((with_reducible refine Below.setCell ?_ ?_ _); rotate_left; (dsimp only; omega))
      | with_reducible refine Below.drew ?_
  | true =>
    obtain ⟨hr, hp, hin⟩ := okB_true hok
    obtain ⟨r1, r2, r3, r4, r5, r6, r7⟩ := rightB_true hr
    rw [inL_one] at hin
    obtain ⟨i1, i2⟩ := inB_true hin
    have hw0 : wrap64 (1 - p) = 1 - p := by unfold wrap64; omega
    have hw1 : wrap64 (E + 1) = E + 1 := by unfold wrap64; omega
    have hw2 : wrap64 (t + 8) = t + 8 := by unfold wrap64; omega
    have hv1 : IntKind.i64.wrap (E + 1) = E + 1 := by rw [IntWalk.i64_left]; exact hw1
    have hv2 : IntKind.i64.wrap (t + 8) = t + 8 := by rw [IntWalk.i64_left]; exact hw2
    have HAR : Hid (askedR E H U p [t] = 0) := Lib.hid (by simp [askedR, hok])
    by_cases h1 : H = 1 - p
    · by_cases h2 : t ≤ U
      · skip
        have HP : Hid (askR E H U p t = ⟨E, H, U, 0, 0, 231⟩) := Lib.hid (by unfold askR; rw [if_pos hok, if_pos ⟨h1, h2⟩])
        have d1 : (H == 1 - p) = true := by simpa using h1
        have d2 : decide (t ≤ U) = true := decide_eq_true h2
        clear h1
        clear hok hr hp hin r1 r2 r3 r4 r5 r6 r7 i1 i2
        go_enter Try.func21, Try.ntmps21
        go_wp2_with fail
        refine (asked_is 0 E H U p [t] _ 1 _ _ hH1 hH2 HAR.out rfl (by omega) (nums_lit [t] rfl (alloc4 w (Obj.cells #[Value.int IntKind.i64 E, Value.int IntKind.i64 H, Value.int IntKind.i64 U] 31) (Obj.cells #[Value.int IntKind.i64 0, Value.int IntKind.i64 0, Value.int IntKind.i64 0] 31) (Obj.cells #[Value.int IntKind.i64 0, Value.int IntKind.i64 0] 43) (Obj.cells #[Value.int IntKind.i64 t] 2) (Below.refl _ _)).2.2.2)).mono ?_
        rintro e w1 ⟨rfl, hb1⟩
        have hB1 := below_on (below4 w (Obj.cells #[Value.int IntKind.i64 E, Value.int IntKind.i64 H, Value.int IntKind.i64 U] 31) (Obj.cells #[Value.int IntKind.i64 0, Value.int IntKind.i64 0, Value.int IntKind.i64 0] 31) (Obj.cells #[Value.int IntKind.i64 0, Value.int IntKind.i64 0] 43) (Obj.cells #[Value.int IntKind.i64 t] 2)) hb1
        obtain ⟨k0, k1, k2, k3⟩ := alloc4 _ _ _ _ _ hb1
        have hs1 : w.heap.size + 3 ≤ w1.heap.size := by have := hb1.size; simp at this; omega
        have a0 := blk_cell k0 0 _ rfl
        have a1 := blk_cell k0 1 _ rfl
        have a2 := blk_cell k0 2 _ rfl
        have b0 := blk_cell k1 0 _ rfl
        have b1 := blk_cell k1 1 _ rfl
        have b2 := blk_cell k1 2 _ rfl
        have c0 := blk_cell k2 0 _ rfl
        have c1 := blk_cell k2 1 _ rfl
        have f0 := blk_free k0
        have f1 := blk_free k1
        have f2 := blk_free k2
        clear k0 k1 k2 k3 hb1
        go_wp2_with fail
        refine bodyPost_ret (v := .tuple #[.agg #[.int .i64 E, .int .i64 H, .int .i64 U], .agg #[.int .i64 0, .int .i64 0], .int .i64 231]) (by simp [results, Try.results21, go_sem, *]) rfl ?_
        refine ⟨by rw [HP.out], ?_⟩
        repeat first
          | with_reducible exact hB1
          | ((with_reducible refine Below.setCell ?_ ?_ _); rotate_left; (dsimp only; omega))
          | with_reducible refine Below.drew ?_
      · skip
        by_cases h3 : E = 1099511627776
        · have HP : Hid (askR E H U p t = ⟨E, H, U, 0, 0, 3⟩) := Lib.hid (by unfold askR; rw [if_pos hok, if_neg (fun h => h2 h.2), if_pos h3])
          have d3 : (E == 1099511627776) = true := by simpa using h3
          clear h3
          have d1 : (H == 1 - p) = true := by simpa using h1
          have d2 : decide (t ≤ U) = false := decide_eq_false h2
          clear h1
          clear hok hr hp hin r1 r2 r3 r4 r5 r6 r7 i1 i2
          go_enter Try.func21, Try.ntmps21
          go_wp2_with fail
          refine (asked_is 0 E H U p [t] _ 1 _ _ hH1 hH2 HAR.out rfl (by omega) (nums_lit [t] rfl (alloc4 w (Obj.cells #[Value.int IntKind.i64 E, Value.int IntKind.i64 H, Value.int IntKind.i64 U] 31) (Obj.cells #[Value.int IntKind.i64 0, Value.int IntKind.i64 0, Value.int IntKind.i64 0] 31) (Obj.cells #[Value.int IntKind.i64 0, Value.int IntKind.i64 0] 43) (Obj.cells #[Value.int IntKind.i64 t] 2) (Below.refl _ _)).2.2.2)).mono ?_
          rintro e w1 ⟨rfl, hb1⟩
          have hB1 := below_on (below4 w (Obj.cells #[Value.int IntKind.i64 E, Value.int IntKind.i64 H, Value.int IntKind.i64 U] 31) (Obj.cells #[Value.int IntKind.i64 0, Value.int IntKind.i64 0, Value.int IntKind.i64 0] 31) (Obj.cells #[Value.int IntKind.i64 0, Value.int IntKind.i64 0] 43) (Obj.cells #[Value.int IntKind.i64 t] 2)) hb1
          obtain ⟨k0, k1, k2, k3⟩ := alloc4 _ _ _ _ _ hb1
          have hs1 : w.heap.size + 3 ≤ w1.heap.size := by have := hb1.size; simp at this; omega
          have a0 := blk_cell k0 0 _ rfl
          have a1 := blk_cell k0 1 _ rfl
          have a2 := blk_cell k0 2 _ rfl
          have b0 := blk_cell k1 0 _ rfl
          have b1 := blk_cell k1 1 _ rfl
          have b2 := blk_cell k1 2 _ rfl
          have c0 := blk_cell k2 0 _ rfl
          have c1 := blk_cell k2 1 _ rfl
          have f0 := blk_free k0
          have f1 := blk_free k1
          have f2 := blk_free k2
          clear k0 k1 k2 k3 hb1
          go_wp2_with fail
          refine bodyPost_ret (v := .tuple #[.agg #[.int .i64 E, .int .i64 H, .int .i64 U], .agg #[.int .i64 0, .int .i64 0], .int .i64 3]) (by simp [results, Try.results21, go_sem, *]) rfl ?_
          refine ⟨by rw [HP.out], ?_⟩
          repeat first
            | with_reducible exact hB1
            | ((with_reducible refine Below.setCell ?_ ?_ _); rotate_left; (dsimp only; omega))
            | with_reducible refine Below.drew ?_
        · have HP : Hid (askR E H U p t = ⟨E + 1, p, t + 8, E + 1, t + 8, 0⟩) := Lib.hid (by unfold askR; rw [if_pos hok, if_neg (fun h => h2 h.2), if_neg h3])
          have d3 : (E == 1099511627776) = false := by simpa using h3
          clear h3
          have d1 : (H == 1 - p) = true := by simpa using h1
          have d2 : decide (t ≤ U) = false := decide_eq_false h2
          clear h1
          clear hok hr hp hin r1 r2 r3 r4 r5 r6 r7 i1 i2
          go_enter Try.func21, Try.ntmps21
          go_wp2_with fail
          refine (asked_is 0 E H U p [t] _ 1 _ _ hH1 hH2 HAR.out rfl (by omega) (nums_lit [t] rfl (alloc4 w (Obj.cells #[Value.int IntKind.i64 E, Value.int IntKind.i64 H, Value.int IntKind.i64 U] 31) (Obj.cells #[Value.int IntKind.i64 0, Value.int IntKind.i64 0, Value.int IntKind.i64 0] 31) (Obj.cells #[Value.int IntKind.i64 0, Value.int IntKind.i64 0] 43) (Obj.cells #[Value.int IntKind.i64 t] 2) (Below.refl _ _)).2.2.2)).mono ?_
          rintro e w1 ⟨rfl, hb1⟩
          have hB1 := below_on (below4 w (Obj.cells #[Value.int IntKind.i64 E, Value.int IntKind.i64 H, Value.int IntKind.i64 U] 31) (Obj.cells #[Value.int IntKind.i64 0, Value.int IntKind.i64 0, Value.int IntKind.i64 0] 31) (Obj.cells #[Value.int IntKind.i64 0, Value.int IntKind.i64 0] 43) (Obj.cells #[Value.int IntKind.i64 t] 2)) hb1
          obtain ⟨k0, k1, k2, k3⟩ := alloc4 _ _ _ _ _ hb1
          have hs1 : w.heap.size + 3 ≤ w1.heap.size := by have := hb1.size; simp at this; omega
          have a0 := blk_cell k0 0 _ rfl
          have a1 := blk_cell k0 1 _ rfl
          have a2 := blk_cell k0 2 _ rfl
          have b0 := blk_cell k1 0 _ rfl
          have b1 := blk_cell k1 1 _ rfl
          have b2 := blk_cell k1 2 _ rfl
          have c0 := blk_cell k2 0 _ rfl
          have c1 := blk_cell k2 1 _ rfl
          have f0 := blk_free k0
          have f1 := blk_free k1
          have f2 := blk_free k2
          clear k0 k1 k2 k3 hb1
          go_wp2_with fail
          go_region
          all_goals
            go_wp2_with fail
            refine bodyPost_ret (v := .tuple #[.agg #[.int .i64 (E + 1), .int .i64 p, .int .i64 (t + 8)], .agg #[.int .i64 (E + 1), .int .i64 (t + 8)], .int .i64 0]) (by simp [results, Try.results21, go_sem, *]) rfl ?_
            refine ⟨by rw [HP.out], ?_⟩
            repeat first
              | with_reducible exact hB1
              | ((with_reducible refine Below.setCell ?_ ?_ _); rotate_left; (dsimp only; omega))
              | with_reducible refine Below.drew ?_
    · skip
      by_cases h3 : E = 1099511627776
      · have HP : Hid (askR E H U p t = ⟨E, H, U, 0, 0, 3⟩) := Lib.hid (by unfold askR; rw [if_pos hok, if_neg (fun h => h1 h.1), if_pos h3])
        have d3 : (E == 1099511627776) = true := by simpa using h3
        clear h3
        have d1 : (H == 1 - p) = false := by simpa using h1
        clear h1
        clear hok hr hp hin r1 r2 r3 r4 r5 r6 r7 i1 i2
        go_enter Try.func21, Try.ntmps21
        go_wp2_with fail
        refine (asked_is 0 E H U p [t] _ 1 _ _ hH1 hH2 HAR.out rfl (by omega) (nums_lit [t] rfl (alloc4 w (Obj.cells #[Value.int IntKind.i64 E, Value.int IntKind.i64 H, Value.int IntKind.i64 U] 31) (Obj.cells #[Value.int IntKind.i64 0, Value.int IntKind.i64 0, Value.int IntKind.i64 0] 31) (Obj.cells #[Value.int IntKind.i64 0, Value.int IntKind.i64 0] 43) (Obj.cells #[Value.int IntKind.i64 t] 2) (Below.refl _ _)).2.2.2)).mono ?_
        rintro e w1 ⟨rfl, hb1⟩
        have hB1 := below_on (below4 w (Obj.cells #[Value.int IntKind.i64 E, Value.int IntKind.i64 H, Value.int IntKind.i64 U] 31) (Obj.cells #[Value.int IntKind.i64 0, Value.int IntKind.i64 0, Value.int IntKind.i64 0] 31) (Obj.cells #[Value.int IntKind.i64 0, Value.int IntKind.i64 0] 43) (Obj.cells #[Value.int IntKind.i64 t] 2)) hb1
        obtain ⟨k0, k1, k2, k3⟩ := alloc4 _ _ _ _ _ hb1
        have hs1 : w.heap.size + 3 ≤ w1.heap.size := by have := hb1.size; simp at this; omega
        have a0 := blk_cell k0 0 _ rfl
        have a1 := blk_cell k0 1 _ rfl
        have a2 := blk_cell k0 2 _ rfl
        have b0 := blk_cell k1 0 _ rfl
        have b1 := blk_cell k1 1 _ rfl
        have b2 := blk_cell k1 2 _ rfl
        have c0 := blk_cell k2 0 _ rfl
        have c1 := blk_cell k2 1 _ rfl
        have f0 := blk_free k0
        have f1 := blk_free k1
        have f2 := blk_free k2
        clear k0 k1 k2 k3 hb1
        go_wp2_with fail
        refine bodyPost_ret (v := .tuple #[.agg #[.int .i64 E, .int .i64 H, .int .i64 U], .agg #[.int .i64 0, .int .i64 0], .int .i64 3]) (by simp [results, Try.results21, go_sem, *]) rfl ?_
        refine ⟨by rw [HP.out], ?_⟩
        repeat first
          | with_reducible exact hB1
          | ((with_reducible refine Below.setCell ?_ ?_ _); rotate_left; (dsimp only; omega))
          | with_reducible refine Below.drew ?_
      · have HP : Hid (askR E H U p t = ⟨E + 1, p, t + 8, E + 1, t + 8, 0⟩) := Lib.hid (by unfold askR; rw [if_pos hok, if_neg (fun h => h1 h.1), if_neg h3])
        have d3 : (E == 1099511627776) = false := by simpa using h3
        clear h3
        have d1 : (H == 1 - p) = false := by simpa using h1
        clear h1
        clear hok hr hp hin r1 r2 r3 r4 r5 r6 r7 i1 i2
        go_enter Try.func21, Try.ntmps21
        go_wp2_with fail
        refine (asked_is 0 E H U p [t] _ 1 _ _ hH1 hH2 HAR.out rfl (by omega) (nums_lit [t] rfl (alloc4 w (Obj.cells #[Value.int IntKind.i64 E, Value.int IntKind.i64 H, Value.int IntKind.i64 U] 31) (Obj.cells #[Value.int IntKind.i64 0, Value.int IntKind.i64 0, Value.int IntKind.i64 0] 31) (Obj.cells #[Value.int IntKind.i64 0, Value.int IntKind.i64 0] 43) (Obj.cells #[Value.int IntKind.i64 t] 2) (Below.refl _ _)).2.2.2)).mono ?_
        rintro e w1 ⟨rfl, hb1⟩
        have hB1 := below_on (below4 w (Obj.cells #[Value.int IntKind.i64 E, Value.int IntKind.i64 H, Value.int IntKind.i64 U] 31) (Obj.cells #[Value.int IntKind.i64 0, Value.int IntKind.i64 0, Value.int IntKind.i64 0] 31) (Obj.cells #[Value.int IntKind.i64 0, Value.int IntKind.i64 0] 43) (Obj.cells #[Value.int IntKind.i64 t] 2)) hb1
        obtain ⟨k0, k1, k2, k3⟩ := alloc4 _ _ _ _ _ hb1
        have hs1 : w.heap.size + 3 ≤ w1.heap.size := by have := hb1.size; simp at this; omega
        have a0 := blk_cell k0 0 _ rfl
        have a1 := blk_cell k0 1 _ rfl
        have a2 := blk_cell k0 2 _ rfl
        have b0 := blk_cell k1 0 _ rfl
        have b1 := blk_cell k1 1 _ rfl
        have b2 := blk_cell k1 2 _ rfl
        have c0 := blk_cell k2 0 _ rfl
        have c1 := blk_cell k2 1 _ rfl
        have f0 := blk_free k0
        have f1 := blk_free k1
        have f2 := blk_free k2
        clear k0 k1 k2 k3 hb1
        go_wp2_with fail
        go_region
        all_goals
          go_wp2_with fail
          refine bodyPost_ret (v := .tuple #[.agg #[.int .i64 (E + 1), .int .i64 p, .int .i64 (t + 8)], .agg #[.int .i64 (E + 1), .int .i64 (t + 8)], .int .i64 0]) (by simp [results, Try.results21, go_sem, *]) rfl ?_
          refine ⟨by rw [HP.out], ?_⟩
          repeat first
            | with_reducible exact hB1
            | ((with_reducible refine Below.setCell ?_ ?_ _); rotate_left; (dsimp only; omega))
            | with_reducible refine Below.drew ?_
end Go.Proofs.Ytoedipajcmmhjaa
