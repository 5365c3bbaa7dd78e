/-
  Walks: the short calls of layer 05.
-/
import Derived.Test.YtdkcpejlojdijaaTpB
namespace Go.Proofs.Ytdkcpejlojdijaa
open Go.RowKit
theorem check_small (r : Rt) (z1 z2 : Int) (x1 x2 x3 x4 : Nat) (W : World) (h : LayAt W (smallL x1 x2 x3 x4 r)) (hc : checkS (smallL x1 x2 x3 x4 r) = (z1, z2)) :
    Calls Try.prog 16 #[.agg #[.slice (some ⟨x1, 0, none⟩) 2 2, .slice (some ⟨x2, 0, none⟩) 1 1, .slice (some ⟨x3, 0, none⟩) 1 1, .slice (some ⟨x4, 0, none⟩) 1 1]] W fun e w' => e = .returned (.tuple #[.int .i64 z1, .int .i64 z2]) ∧ Below W.heap.size W w' := by
  have := check_is _ W h
  rw [hc] at this
  exact this
theorem both_small (r : Rt) (w w0 : World) (hb : Below w0.heap.size w0 w) (h : RtAt w r) : Calls Try.prog 23 #[.agg #[.string r.nm, .int .i64 r.sg, r.pa.v, r.po.v, r.ov.v, r.fl.v]] w fun e w' => ∃ x1 x2 x3 x4, e = .returned (.agg #[.slice (some ⟨x1, 0, none⟩) 2 2, .slice (some ⟨x2, 0, none⟩) 1 1, .slice (some ⟨x3, 0, none⟩) 1 1, .slice (some ⟨x4, 0, none⟩) 1 1]) ∧ LayAt w' (smallL x1 x2 x3 x4 r) ∧ Below w0.heap.size w0 w' :=
  (small_is r w h).mono (fun _ _ ⟨x1, x2, x3, x4, h1, h2, h3⟩ => ⟨x1, x2, x3, x4, h1, h2, below_on hb h3⟩)
/-- what is known of the layout that the 1th call checks -/
def Sm1 (w : World) (x1 x2 x3 x4 : Nat) : Prop := ∀ W, Below w.heap.size w W → Calls Try.prog 16 #[.agg #[.slice (some ⟨x1, 0, none⟩) 2 2, .slice (some ⟨x2, 0, none⟩) 1 1, .slice (some ⟨x3, 0, none⟩) 1 1, .slice (some ⟨x4, 0, none⟩) 1 1]] W fun e w' => e = .returned (.tuple #[.int .i64 0, .int .i64 0]) ∧ Below W.heap.size W w'
theorem sm_1 (w0 w : World) (b1 b2 : Nat) (hb : Below w0.heap.size w0 w) (h1 : w.heap[b1]? = some (.cells #[.int .i64 1] 3)) (h2 : w.heap[b2]? = some (.cells #[.int .i64 0, .bool false] 32)) : Calls Try.prog 23 #[.agg #[.string ⟨#[]⟩, .int .i64 0, .slice (some ⟨b1, 0, none⟩) 1 1, .slice (some ⟨b2, 0, none⟩) 1 1, .slice none 0 0, .slice none 0 0]] w fun e w' => ∃ x1 x2 x3 x4, e = .returned (.agg #[.slice (some ⟨x1, 0, none⟩) 2 2, .slice (some ⟨x2, 0, none⟩) 1 1, .slice (some ⟨x3, 0, none⟩) 1 1, .slice (some ⟨x4, 0, none⟩) 1 1]) ∧ Sm1 w' x1 x2 x3 x4 ∧ Below w0.heap.size w0 w' :=
  (both_small ⟨⟨#[]⟩, 0, ⟨some ⟨b1, 0, none⟩, 1, [1]⟩, ⟨some ⟨b2, 0, none⟩, 1, [(0, false)]⟩, ⟨none, 0, []⟩, ⟨none, 0, []⟩⟩ w w0 hb ⟨Nat.zero_le _, sl_blk int_len h1 rfl rfl (by decide), sl_blk nd_len h2 rfl rfl (by decide), sl_none, sl_none⟩).mono (fun _ _ ⟨x1, x2, x3, x4, h1, h2, h3⟩ => ⟨x1, x2, x3, x4, h1, fun W hW => check_small _ _ _ _ _ _ _ W (h2.below hW) (small_a ..), h3⟩)
/-- what is known of the layout that the 2th call checks -/
def Sm2 (w : World) (x1 x2 x3 x4 : Nat) : Prop := ∀ W, Below w.heap.size w W → Calls Try.prog 16 #[.agg #[.slice (some ⟨x1, 0, none⟩) 2 2, .slice (some ⟨x2, 0, none⟩) 1 1, .slice (some ⟨x3, 0, none⟩) 1 1, .slice (some ⟨x4, 0, none⟩) 1 1]] W fun e w' => e = .returned (.tuple #[.int .i64 50, .int .i64 0]) ∧ Below W.heap.size W w'
theorem sm_2 (w0 w : World) (b1 : Nat) (hb : Below w0.heap.size w0 w) (h1 : w.heap[b1]? = some (.cells #[.int .i64 0] 3)) : Calls Try.prog 23 #[.agg #[.string ⟨#[]⟩, .int .i64 0, .slice (some ⟨b1, 0, none⟩) 1 1, .slice none 0 0, .slice none 0 0, .slice none 0 0]] w fun e w' => ∃ x1 x2 x3 x4, e = .returned (.agg #[.slice (some ⟨x1, 0, none⟩) 2 2, .slice (some ⟨x2, 0, none⟩) 1 1, .slice (some ⟨x3, 0, none⟩) 1 1, .slice (some ⟨x4, 0, none⟩) 1 1]) ∧ Sm2 w' x1 x2 x3 x4 ∧ Below w0.heap.size w0 w' :=
  (both_small ⟨⟨#[]⟩, 0, ⟨some ⟨b1, 0, none⟩, 1, [0]⟩, ⟨none, 0, []⟩, ⟨none, 0, []⟩, ⟨none, 0, []⟩⟩ w w0 hb ⟨Nat.zero_le _, sl_blk int_len h1 rfl rfl (by decide), sl_none, sl_none, sl_none⟩).mono (fun _ _ ⟨x1, x2, x3, x4, h1, h2, h3⟩ => ⟨x1, x2, x3, x4, h1, fun W hW => check_small _ _ _ _ _ _ _ W (h2.below hW) (small_b ..), h3⟩)
/-- what is known of the layout that the 3th call checks -/
def Sm3 (w : World) (x1 x2 x3 x4 : Nat) : Prop := ∀ W, Below w.heap.size w W → Calls Try.prog 16 #[.agg #[.slice (some ⟨x1, 0, none⟩) 2 2, .slice (some ⟨x2, 0, none⟩) 1 1, .slice (some ⟨x3, 0, none⟩) 1 1, .slice (some ⟨x4, 0, none⟩) 1 1]] W fun e w' => e = .returned (.tuple #[.int .i64 50, .int .i64 0]) ∧ Below W.heap.size W w'
theorem sm_3 (w0 w : World) (b1 : Nat) (hb : Below w0.heap.size w0 w) (h1 : w.heap[b1]? = some (.cells #[.int .i64 1] 3)) : Calls Try.prog 23 #[.agg #[.string ⟨#[]⟩, .int .i64 0, .slice (some ⟨b1, 0, none⟩) 1 1, .slice none 0 0, .slice none 0 0, .slice none 0 0]] w fun e w' => ∃ x1 x2 x3 x4, e = .returned (.agg #[.slice (some ⟨x1, 0, none⟩) 2 2, .slice (some ⟨x2, 0, none⟩) 1 1, .slice (some ⟨x3, 0, none⟩) 1 1, .slice (some ⟨x4, 0, none⟩) 1 1]) ∧ Sm3 w' x1 x2 x3 x4 ∧ Below w0.heap.size w0 w' :=
  (both_small ⟨⟨#[]⟩, 0, ⟨some ⟨b1, 0, none⟩, 1, [1]⟩, ⟨none, 0, []⟩, ⟨none, 0, []⟩, ⟨none, 0, []⟩⟩ w w0 hb ⟨Nat.zero_le _, sl_blk int_len h1 rfl rfl (by decide), sl_none, sl_none, sl_none⟩).mono (fun _ _ ⟨x1, x2, x3, x4, h1, h2, h3⟩ => ⟨x1, x2, x3, x4, h1, fun W hW => check_small _ _ _ _ _ _ _ W (h2.below hW) (small_c ..), h3⟩)
/-- what is known of the layout that the 4th call checks -/
def Sm4 (w : World) (x1 x2 x3 x4 : Nat) : Prop := ∀ W, Below w.heap.size w W → Calls Try.prog 16 #[.agg #[.slice (some ⟨x1, 0, none⟩) 2 2, .slice (some ⟨x2, 0, none⟩) 1 1, .slice (some ⟨x3, 0, none⟩) 1 1, .slice (some ⟨x4, 0, none⟩) 1 1]] W fun e w' => e = .returned (.tuple #[.int .i64 50, .int .i64 0]) ∧ Below W.heap.size W w'
theorem sm_4 (w0 w : World) (b1 b2 b3 : Nat) (hb : Below w0.heap.size w0 w) (h1 : w.heap[b1]? = some (.cells #[.int .i64 1] 3)) (h2 : w.heap[b2]? = some (.cells #[.int .i64 0, .bool false] 32)) (h3 : w.heap[b3]? = some (.cells #[.int .i64 0, .bool true] 32)) : Calls Try.prog 23 #[.agg #[.string ⟨#[]⟩, .int .i64 0, .slice (some ⟨b1, 0, none⟩) 1 1, .slice (some ⟨b2, 0, none⟩) 1 1, .slice none 0 0, .slice (some ⟨b3, 0, none⟩) 1 1]] w fun e w' => ∃ x1 x2 x3 x4, e = .returned (.agg #[.slice (some ⟨x1, 0, none⟩) 2 2, .slice (some ⟨x2, 0, none⟩) 1 1, .slice (some ⟨x3, 0, none⟩) 1 1, .slice (some ⟨x4, 0, none⟩) 1 1]) ∧ Sm4 w' x1 x2 x3 x4 ∧ Below w0.heap.size w0 w' :=
  (both_small ⟨⟨#[]⟩, 0, ⟨some ⟨b1, 0, none⟩, 1, [1]⟩, ⟨some ⟨b2, 0, none⟩, 1, [(0, false)]⟩, ⟨none, 0, []⟩, ⟨some ⟨b3, 0, none⟩, 1, [(0, true)]⟩⟩ w w0 hb ⟨Nat.zero_le _, sl_blk int_len h1 rfl rfl (by decide), sl_blk nd_len h2 rfl rfl (by decide), sl_none, sl_blk nd_len h3 rfl rfl (by decide)⟩).mono (fun _ _ ⟨x1, x2, x3, x4, h1, h2, h3⟩ => ⟨x1, x2, x3, x4, h1, fun W hW => check_small _ _ _ _ _ _ _ W (h2.below hW) (small_d ..), h3⟩)
theorem tr_small (b1 b2 : Nat) (w0 w : World) (hb : Below w0.heap.size w0 w) (h1 : w.heap[b1]? = some (.cells #[.int .i64 1] 3)) (h2 : w.heap[b2]? = some (.cells #[.int .i64 2] 3)) :
    Calls Try.prog 9 #[.agg #[.string ⟨#[]⟩, .int .i64 0, .slice (some ⟨b1, 0, none⟩) 1 1, .slice none 0 0, .slice (some ⟨b2, 0, none⟩) 1 1, .slice none 0 0]] w fun e w' => ∃ a c, e = .returned (.slice a 2 c) ∧ Below w0.heap.size w0 w' :=
  (track_is ⟨⟨#[]⟩, 0, ⟨some ⟨b1, 0, none⟩, 1, [1]⟩, ⟨none, 0, []⟩, ⟨some ⟨b2, 0, none⟩, 1, [2]⟩, ⟨none, 0, []⟩⟩ w ⟨Nat.zero_le _, sl_blk int_len h1 rfl rfl (by decide), sl_none, sl_blk int_len h2 rfl rfl (by decide), sl_none⟩ (by show 1 + 1 ≤ 100000; decide)).mono (fun _ _ ⟨a, n, c, g1, g2, g3, g4⟩ => ⟨a, c, by rw [g1, g2]; rfl, below_on hb g4⟩)
set_option maxRecDepth 100000 in
set_option maxHeartbeats 4000000 in
theorem works_is (w : World) : Calls Try.prog 8 #[] w fun e w' => e = .returned (.bool true) ∧ Below w.heap.size w w' := by
  go_enter Try.func8, Try.ntmps8
  go_wp2_with fail
  have at0 := allocs_at [(.cells #[.int .i64 1] 3), (.cells #[.int .i64 0, .bool false] 32)] w
  have bl0 := allocs_below [(.cells #[.int .i64 1] 3), (.cells #[.int .i64 0, .bool false] 32)] w
  refine (sm_1 w _ (w.heap.size) (w.heap.size + 1) (bl0) (at0 0 _ rfl) (at0 1 _ rfl)).mono ?_
  rintro e v0 ⟨x1, x2, x3, x4, rfl, hs, hb⟩
  have HS := Lib.hid hs
  have HBs := Lib.hid hb
  clear hs hb at0 bl0
  go_wp2_with fail
  refine (HS.out _ (Below.refl _ _)).mono ?_
  rintro e w0 ⟨rfl, hb⟩
  have HB0 := Lib.hid (below_on HBs.out hb)
  clear hb HS HBs
  go_wp2_with fail
  have at1 := allocs_at [(.cells #[.int .i64 0] 3)] w0
  have bl1 := allocs_below [(.cells #[.int .i64 0] 3)] w0
  refine (sm_2 w _ (w0.heap.size) (below_on HB0.out bl1) (at1 0 _ rfl)).mono ?_
  rintro e v1 ⟨x1, x2, x3, x4, rfl, hs, hb⟩
  have HS := Lib.hid hs
  have HBs := Lib.hid hb
  clear hs hb at1 bl1
  go_wp2_with fail
  refine (HS.out _ (Below.refl _ _)).mono ?_
  rintro e w1 ⟨rfl, hb⟩
  have HB1 := Lib.hid (below_on HBs.out hb)
  clear hb HS HBs
  go_wp2_with fail
  have at2 := allocs_at [(.cells #[.int .i64 1] 3)] w1
  have bl2 := allocs_below [(.cells #[.int .i64 1] 3)] w1
  refine (sm_3 w _ (w1.heap.size) (below_on HB1.out bl2) (at2 0 _ rfl)).mono ?_
  rintro e v2 ⟨x1, x2, x3, x4, rfl, hs, hb⟩
  have HS := Lib.hid hs
  have HBs := Lib.hid hb
  clear hs hb at2 bl2
  go_wp2_with fail
  refine (HS.out _ (Below.refl _ _)).mono ?_
  rintro e w2 ⟨rfl, hb⟩
  have HB2 := Lib.hid (below_on HBs.out hb)
  clear hb HS HBs
  go_wp2_with fail
  have at3 := allocs_at [(.cells #[.int .i64 1] 3), (.cells #[.int .i64 0, .bool false] 32), (.cells #[.int .i64 0, .bool true] 32)] w2
  have bl3 := allocs_below [(.cells #[.int .i64 1] 3), (.cells #[.int .i64 0, .bool false] 32), (.cells #[.int .i64 0, .bool true] 32)] w2
  refine (sm_4 w _ (w2.heap.size) (w2.heap.size + 1) (w2.heap.size + 1 + 1) (below_on HB2.out bl3) (at3 0 _ rfl) (at3 1 _ rfl) (at3 2 _ rfl)).mono ?_
  rintro e v3 ⟨x1, x2, x3, x4, rfl, hs, hb⟩
  have HS := Lib.hid hs
  have HBs := Lib.hid hb
  clear hs hb at3 bl3
  go_wp2_with fail
  refine (HS.out _ (Below.refl _ _)).mono ?_
  rintro e w3 ⟨rfl, hb⟩
  have HB3 := Lib.hid (below_on HBs.out hb)
  clear hb HS HBs
  go_wp2_with fail
  have at4 := allocs_at [(.cells #[.int .i64 1] 3), (.cells #[.int .i64 2] 3)] w3
  have bl4 := allocs_below [(.cells #[.int .i64 1] 3), (.cells #[.int .i64 2] 3)] w3
  refine (tr_small (w3.heap.size) (w3.heap.size + 1) w _ (below_on HB3.out bl4) (at4 0 _ rfl) (at4 1 _ rfl)).mono ?_
  rintro e w4 ⟨a, c, rfl, hb⟩
  have HB4 := Lib.hid hb
  clear hb at4 bl4
  go_wp2_with fail
  go_ret
  exact ⟨rfl, HB4.out⟩
end Go.Proofs.Ytdkcpejlojdijaa
