/-
  Walks: the short calls of layer 06.
-/
import Derived.Test.YthlnnlemnbpndaaCoM
import Derived.Test.YthlnnlemnbpndaaCoK
import Derived.Test.YthlnnlemnbpndaaCoOr
import Derived.Test.YthlnnlemnbpndaaTpK
import Derived.Deep.RegionHeld3
namespace Go.Proofs.Ythlnnlemnbpndaa
open Go.RowKit
set_option maxRecDepth 100000
theorem yard_check (b : Nat) : checkS (yardL b) = (0, 0) := by kernel_rfl
theorem yard_tab (b : Nat) : tabL (yardL b) = [30, 17, 25, 5, 7] := by kernel_rfl
theorem yard_p01 (b : Nat) : pairS (yardL b) 0 1 = true := by kernel_rfl
theorem yard_p02 (b : Nat) : pairS (yardL b) 0 2 = true := by kernel_rfl
theorem yard_p13 (b : Nat) : pairS (yardL b) 1 3 = false := by kernel_rfl
theorem yard_of (b : Nat) : cofL (yardL b) 2 = [0, 3, 4] := by kernel_rfl
attribute [local irreducible] checkS tabL pairS cofL mayS
theorem table_y (b : Nat) (W : World) (hy : YardAt W b) :
    Calls Try.prog 10 #[.agg #[.slice (some ⟨b + 1, 0, none⟩) 6 6, .slice (some ⟨b + 2, 0, none⟩) 2 2, .slice (some ⟨b + 3, 0, none⟩) 3 3, .slice (some ⟨b + 16, 0, none⟩) 5 5]] W fun e w' => ∃ a c, e = .returned (.tuple #[.slice a 5 c, .int .i64 0]) ∧ SlAt 1 u64C w' ⟨a, c, [30, 17, 25, 5, 7]⟩ ∧ Below W.heap.size W w' := by
  have h := table_is (yardL b) W (yard_at hy)
  rw [yard_check, yard_tab] at h
  exact h.mono (fun e w' ⟨a, m, c, h1, h2, h3, h4⟩ => ⟨a, c, by rw [h1, h2]; rfl, h3, h4⟩)
theorem pair_y (b : Nat) (i k : Int) (z : Bool) (hz : pairS (yardL b) i k = z) (W : World) (hy : YardAt W b) :
    Calls Try.prog 13 #[.agg #[.slice (some ⟨b + 1, 0, none⟩) 6 6, .slice (some ⟨b + 2, 0, none⟩) 2 2, .slice (some ⟨b + 3, 0, none⟩) 3 3, .slice (some ⟨b + 16, 0, none⟩) 5 5], .int .i64 i, .int .i64 k] W fun e w' => e = .returned (.bool z) ∧ Below W.heap.size W w' := pair_is (yardL b) i k z hz W (yard_at hy)
theorem of_y (b : Nat) (W : World) (hy : YardAt W b) :
    Calls Try.prog 21 #[.agg #[.slice (some ⟨b + 1, 0, none⟩) 6 6, .slice (some ⟨b + 2, 0, none⟩) 2 2, .slice (some ⟨b + 3, 0, none⟩) 3 3, .slice (some ⟨b + 16, 0, none⟩) 5 5], .int .i64 2] W fun e w' => ∃ a c, e = .returned (.slice a 3 c) ∧ SlAt 1 intC w' ⟨a, c, [0, 3, 4]⟩ ∧ Below W.heap.size W w' := by
  have h := of_is (yardL b) 2 W (yard_at hy)
  rw [yard_of] at h
  exact h.mono (fun e w' ⟨a, m, c, h1, h2, h3, h4⟩ => ⟨a, c, by rw [h1, h2]; rfl, h3, h4⟩)
theorem rof_y (b : Nat) (W : World) (hy : YardAt W b) :
    Calls Try.prog 22 #[.agg #[.slice (some ⟨b + 1, 0, none⟩) 6 6, .slice (some ⟨b + 2, 0, none⟩) 2 2, .slice (some ⟨b + 3, 0, none⟩) 3 3, .slice (some ⟨b + 16, 0, none⟩) 5 5], .int .i64 2] W fun e w' => ∃ a c, e = .returned (.slice a 3 c) ∧ SlAt 1 intC w' ⟨a, c, [0, 3, 4]⟩ ∧ Below W.heap.size W w' := by
  have h := rof_is (yardL b) 2 W (yard_at hy)
  rw [yard_of] at h
  exact h.mono (fun e w' ⟨a, m, c, h1, h2, h3, h4⟩ => ⟨a, c, by rw [h1, h2]; rfl, h3, h4⟩)
set_option maxHeartbeats 4000000 in
theorem works_is (w : World) : Calls Try.prog 8 #[] w fun e w' => e = .returned (.bool true) ∧ Below w.heap.size w w' := by
  go_enter Try.func8, Try.ntmps8
  go_wp2_with fail
  refine (yard_is w).mono ?_
  rintro e w1 ⟨b, hbw, rfl, hy, hb1⟩
  have HY1 := Lib.hid hy
  have HB1 := Lib.hid hb1
  clear hbw hy hb1
  go_upto_region 2 with fail
  have hbx := below1 w1 (.cells #[.slice (some ⟨b + 1, 0, none⟩) 6 6, .slice (some ⟨b + 2, 0, none⟩) 2 2, .slice (some ⟨b + 3, 0, none⟩) 3 3, .slice (some ⟨b + 16, 0, none⟩) 5 5] 27)
  have hqx := alloc1 w1 (.cells #[.slice (some ⟨b + 1, 0, none⟩) 6 6, .slice (some ⟨b + 2, 0, none⟩) 2 2, .slice (some ⟨b + 3, 0, none⟩) 3 3, .slice (some ⟨b + 16, 0, none⟩) 5 5] 27) (Below.refl _ _)
  obtain ⟨w2, hw2⟩ : ∃ W, W = w1.alloc (.cells #[.slice (some ⟨b + 1, 0, none⟩) 6 6, .slice (some ⟨b + 2, 0, none⟩) 2 2, .slice (some ⟨b + 3, 0, none⟩) 3 3, .slice (some ⟨b + 16, 0, none⟩) 5 5] 27) := ⟨_, rfl⟩
  rw [← hw2] at hbx hqx ⊢
  obtain ⟨gx, hgx⟩ : ∃ g, g = w1.heap.size := ⟨_, rfl⟩
  rw [← hgx] at hqx ⊢
  have HQ2 := Lib.hid hqx
  have HY2 := Lib.hid (HY1.out.below hbx)
  have HB2 := Lib.hid (below_on HB1.out hbx)
  have l0 := blk_cell hqx 0 _ rfl
  have l1 := blk_cell hqx 1 _ rfl
  have l2 := blk_cell hqx 2 _ rfl
  have l3 := blk_cell hqx 3 _ rfl
  clear hbx hqx hw2 hgx HY1 HB1
  go_wp2_with fail
  refine (table_y b _ HY2.out).mono ?_
  rintro e w3 ⟨ta, tc, rfl, hs, hb3⟩
  have HQ3 := Lib.hid (blk_keep hb3 HQ2.out)
  have HY3 := Lib.hid (HY2.out.below hb3)
  have HB3 := Lib.hid (below_on HB2.out hb3)
  rcases hs.row with hnil | ⟨tb, off, hta, hc⟩
  · cases hnil
  obtain rfl : ta = some ⟨tb, off, none⟩ := hta
  have HC0 : Hid (w3.cell? ⟨tb, off, none⟩ = some (.int .u64 30)) := Lib.hid (by simpa using hc 0 30 rfl 0 _ rfl)
  have HC1 : Hid (w3.cell? ⟨tb, off + 1, none⟩ = some (.int .u64 17)) := Lib.hid (by simpa using hc 1 17 rfl 0 _ rfl)
  clear hs hb3 hc l0 l1 l2 l3 HQ2 HY2 HB2
  have P01 : Hid (∀ W, Below w3.heap.size w3 W → Calls Try.prog 13 #[.agg #[.slice (some ⟨b + 1, 0, none⟩) 6 6, .slice (some ⟨b + 2, 0, none⟩) 2 2, .slice (some ⟨b + 3, 0, none⟩) 3 3, .slice (some ⟨b + 16, 0, none⟩) 5 5], .int .i64 0, .int .i64 1] W fun e w' => e = .returned (.bool true) ∧ Below W.heap.size W w') := Lib.hid (fun W hW => pair_y b 0 1 true (yard_p01 b) W (HY3.out.below hW))
  have P02 : Hid (∀ W, Below w3.heap.size w3 W → Calls Try.prog 13 #[.agg #[.slice (some ⟨b + 1, 0, none⟩) 6 6, .slice (some ⟨b + 2, 0, none⟩) 2 2, .slice (some ⟨b + 3, 0, none⟩) 3 3, .slice (some ⟨b + 16, 0, none⟩) 5 5], .int .i64 0, .int .i64 2] W fun e w' => e = .returned (.bool true) ∧ Below W.heap.size W w') := Lib.hid (fun W hW => pair_y b 0 2 true (yard_p02 b) W (HY3.out.below hW))
  have P13 : Hid (∀ W, Below w3.heap.size w3 W → Calls Try.prog 13 #[.agg #[.slice (some ⟨b + 1, 0, none⟩) 6 6, .slice (some ⟨b + 2, 0, none⟩) 2 2, .slice (some ⟨b + 3, 0, none⟩) 3 3, .slice (some ⟨b + 16, 0, none⟩) 5 5], .int .i64 1, .int .i64 3] W fun e w' => e = .returned (.bool false) ∧ Below W.heap.size W w') := Lib.hid (fun W hW => pair_y b 1 3 false (yard_p13 b) W (HY3.out.below hW))
  have OF1 : Hid (∀ W, Below w3.heap.size w3 W → Calls Try.prog 21 #[.agg #[.slice (some ⟨b + 1, 0, none⟩) 6 6, .slice (some ⟨b + 2, 0, none⟩) 2 2, .slice (some ⟨b + 3, 0, none⟩) 3 3, .slice (some ⟨b + 16, 0, none⟩) 5 5], .int .i64 2] W fun e w' => ∃ a c, e = .returned (.slice a 3 c) ∧ SlAt 1 intC w' ⟨a, c, [0, 3, 4]⟩ ∧ Below W.heap.size W w') := Lib.hid (fun W hW => of_y b W (HY3.out.below hW))
  have OF2 : Hid (∀ W, Below w3.heap.size w3 W → Calls Try.prog 22 #[.agg #[.slice (some ⟨b + 1, 0, none⟩) 6 6, .slice (some ⟨b + 2, 0, none⟩) 2 2, .slice (some ⟨b + 3, 0, none⟩) 3 3, .slice (some ⟨b + 16, 0, none⟩) 5 5], .int .i64 2] W fun e w' => ∃ a c, e = .returned (.slice a 3 c) ∧ SlAt 1 intC w' ⟨a, c, [0, 3, 4]⟩ ∧ Below W.heap.size W w') := Lib.hid (fun W hW => rof_y b W (HY3.out.below hW))
  have HS : Hid (∀ w', Below w3.heap.size w3 w' → w'.cell? ⟨gx, 0, none⟩ = some (.slice (some ⟨b + 1, 0, none⟩) 6 6) ∧ w'.cell? ⟨gx, 1, none⟩ = some (.slice (some ⟨b + 2, 0, none⟩) 2 2) ∧ w'.cell? ⟨gx, 2, none⟩ = some (.slice (some ⟨b + 3, 0, none⟩) 3 3) ∧ w'.cell? ⟨gx, 3, none⟩ = some (.slice (some ⟨b + 16, 0, none⟩) 5 5) ∧ w'.cell? ⟨tb, off, none⟩ = some (.int .u64 30) ∧ w'.cell? ⟨tb, off + 1, none⟩ = some (.int .u64 17)) := Lib.hid (fun w' hw' => ⟨blk_cell (blk_keep hw' HQ3.out) 0 _ rfl, blk_cell (blk_keep hw' HQ3.out) 1 _ rfl, blk_cell (blk_keep hw' HQ3.out) 2 _ rfl, blk_cell (blk_keep hw' HQ3.out) 3 _ rfl, cell_later hw' HC0.out, cell_later hw' HC1.out⟩)
  have a1 : bits .and .u64 17 8 = 0 := by decide
  have a2 : bits .and .u64 30 2 = 2 := by decide
  go_upto_region 3 with fail
  go_region_held3 (fun w' => w'.cell? ⟨gx, 0, none⟩ = some (.slice (some ⟨b + 1, 0, none⟩) 6 6) ∧ w'.cell? ⟨gx, 1, none⟩ = some (.slice (some ⟨b + 2, 0, none⟩) 2 2) ∧ w'.cell? ⟨gx, 2, none⟩ = some (.slice (some ⟨b + 3, 0, none⟩) 3 3) ∧ w'.cell? ⟨gx, 3, none⟩ = some (.slice (some ⟨b + 16, 0, none⟩) 5 5) ∧ w'.cell? ⟨tb, off, none⟩ = some (.int .u64 30) ∧ w'.cell? ⟨tb, off + 1, none⟩ = some (.int .u64 17))
    (exact HS.out _ (by first | exact (Below.refl _ w3) | exact (Below.refl _ w3).drew | assumption))
    (first
      | ((with_reducible refine (P01.out _ (by first | exact (Below.refl _ w3) | exact (Below.refl _ w3).drew | assumption)).mono ?_); rintro e v1 ⟨rfl, hv1⟩; have hb1 : Below w3.heap.size w3 v1 := below_on (by first | exact (Below.refl _ w3) | exact (Below.refl _ w3).drew | assumption) hv1)
      | ((with_reducible refine (P02.out _ (by first | exact hb1 | exact hb1.drew | assumption)).mono ?_); rintro e v2 ⟨rfl, hv2⟩; have hb2 : Below w3.heap.size w3 v2 := below_on (by first | exact hb1 | exact hb1.drew | assumption) hv2)
      | ((with_reducible refine (P13.out _ (by first | exact hb2 | exact hb2.drew | assumption)).mono ?_); rintro e v3 ⟨rfl, hv3⟩; have hb3 : Below w3.heap.size w3 v3 := below_on (by first | exact hb2 | exact hb2.drew | assumption) hv3)
      | ((with_reducible refine (OF1.out _ (by first | exact hb3 | exact hb3.drew | assumption)).mono ?_); rintro e v4 ⟨x1, c1, rfl, hx1, hv4⟩; have hb4 : Below w3.heap.size w3 v4 := below_on (by first | exact hb3 | exact hb3.drew | assumption) hv4)
      | ((with_reducible refine (OF2.out _ (by first | exact hb4 | exact hb4.drew | assumption)).mono ?_); rintro e v5 ⟨x2, c2, rfl, hx2, hv5⟩; have hb5 : Below w3.heap.size w3 v5 := below_on (by first | exact hb4 | exact hb4.drew | assumption) hv5)
      | ((with_reducible refine (sameints_is x1 3 c1 [0, 3, 4] x2 3 c2 [0, 3, 4] _ rfl rfl (by decide) ((SlAt.below hx1 (show Below v4.heap.size v4 v5 by first | exact hv5 | exact below_undrew hv5)).row) hx2.row).mono ?_); rintro e v6 ⟨rfl, hv6⟩; have hb6 : Below w3.heap.size w3 v6 := below_on (by first | exact hb5 | exact hb5.drew | assumption) hv6))
  have HBF := Lib.hid (below_on HB3.out hb6)
  clear HS P01 P02 P13 OF1 OF2 hv1 hb1 hv2 hb2 hv3 hb3 hv4 hb4 hv5 hb5 hv6 hb6 hx1 hx2
  go_wp2_with fail
  go_ret
  exact ⟨rfl, HBF.out⟩
end Go.Proofs.Ythlnnlemnbpndaa
