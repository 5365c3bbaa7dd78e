/-
  Layer 08: works.
-/
import Derived.Test.YtififkielmddpaaMkG
import Derived.Deep.RegionHeld3
namespace Go.Proofs.Ytififkielmddpaa
open Go.RowKit
set_option maxRecDepth 100000
def wkL (b : Nat) : Lay := ⟨⟨some ⟨b, 0, none⟩, 2, [⟨#[97]⟩, ⟨#[98]⟩]⟩, ⟨some ⟨b + 1, 0, none⟩, 1, [(⟨#[80]⟩, 1)]⟩, ⟨some ⟨b + 1 + 1, 0, none⟩, 1, [(⟨#[71]⟩, 0)]⟩, ⟨some ⟨b + 1 + 1 + 1 + 1 + 1, 0, none⟩, 1, [⟨⟨#[82]⟩, 0, ⟨some ⟨b + 1 + 1 + 1, 0, none⟩, 1, [1]⟩, ⟨some ⟨b + 1 + 1 + 1 + 1, 0, none⟩, 1, [(0, true)]⟩, ⟨none, 0, []⟩, ⟨none, 0, []⟩⟩]⟩⟩
theorem wk_at {W : World} {b : Nat} (q0 : W.heap[b]? = some (.cells #[.string ⟨#[97]⟩, .string ⟨#[98]⟩] 9)) (q1 : W.heap[b + 1]? = some (.cells #[.string ⟨#[80]⟩, .int .i64 1] 66)) (q2 : W.heap[b + 1 + 1]? = some (.cells #[.string ⟨#[71]⟩, .int .i64 0] 67)) (q3 : W.heap[b + 1 + 1 + 1]? = some (.cells #[.int .i64 1] 3)) (q4 : W.heap[b + 1 + 1 + 1 + 1]? = some (.cells #[.int .i64 0, .bool true] 63)) (q5 : W.heap[b + 1 + 1 + 1 + 1 + 1]? = some (.cells #[.string ⟨#[82]⟩, .int .i64 0, .slice (some ⟨b + 1 + 1 + 1, 0, none⟩) 1 1, .slice (some ⟨b + 1 + 1 + 1 + 1, 0, none⟩) 1 1, .slice none 0 0, .slice none 0 0] 61)) : LayAt W (wkL b) := by
  refine ⟨sl_blk str_len q0 rfl rfl (by decide), sl_blk pt_len q1 rfl rfl (by decide), sl_blk pt_len q2 rfl rfl (by decide), sl_blk rt_len q5 rfl rfl (by decide), ?_, ?_, ?_, ?_⟩
  · intro s hs
    simp [wkL] at hs
    rcases hs with rfl | rfl <;> decide
  · intro s hs
    simp [wkL] at hs
    subst hs
    decide
  · intro s hs
    simp [wkL] at hs
    subst hs
    decide
  · intro s hs
    simp [wkL] at hs
    subst hs
    exact ⟨by show (⟨#[82]⟩ : BA).size ≤ maxLen; decide, sl_blk int_len q3 rfl rfl (by decide), sl_blk nd_len q4 rfl rfl (by decide), sl_none, sl_none⟩
def wkM : List Mk := [⟨2, 2, 1, 0, 1, 0⟩]
theorem wk_c (b : Nat) : (checkS (wkL b)).1 = 0 := by kernel_rfl
theorem wk_m (b : Nat) : mksL (wkL b) = wkM := by kernel_rfl
theorem wk_l (b : Nat) : liesL (wkL b) = [2] := by kernel_rfl
theorem wk_a (b : Nat) : allL (wkL b) = 1 := by kernel_rfl
theorem wk_p (b : Nat) : ptsL (wkL b) = 1 := by kernel_rfl
theorem wk_t (b : Nat) : trsL (wkL b) = 3 := by kernel_rfl
theorem wk_ok : ∀ x ∈ wkM, x.ok := by
  intro x hx
  obtain rfl := List.mem_singleton.1 hx
  exact ⟨by decide, by decide, by decide, by decide, by decide, by decide⟩
theorem wk_n : orS Mk.n wkM 1 1 = 0 := by kernel_rfl
theorem wk_r : orS Mk.r wkM 1 1 = 1 := by kernel_rfl
theorem wk_k : orS Mk.c wkM 1 1 = 0 := by kernel_rfl
theorem wk_make (b : Nat) (W : World) (hL : LayAt W (wkL b)) :
    Calls Try.prog 10 #[.agg #[.slice (some ⟨b, 0, none⟩) 2 2, .slice (some ⟨b + 1, 0, none⟩) 1 1, .slice (some ⟨b + 1 + 1, 0, none⟩) 1 1, .slice (some ⟨b + 1 + 1 + 1 + 1 + 1, 0, none⟩) 1 1]] W fun e w' => ∃ xa xc ya yc, e = .returned (.tuple #[.agg #[.slice xa 1 xc, .slice ya 1 yc, .int .u64 1, .int .u32 1, .int .u64 3], .int .i64 0]) ∧ RowAt 6 mkC w' xa wkM ∧ RowAt 1 u64C w' ya [2] ∧ Below W.heap.size W w' := by
  refine (make_is (wkL b) W hL).mono ?_
  rintro e w' ⟨xa, xc, ya, yc, m, n, rfl, hm, hn, h1, h2, hb⟩
  rw [wk_m] at hm h1
  rw [wk_l] at hn h2
  rw [wk_a, wk_p, wk_t, wk_c]
  subst hm
  subst hn
  exact ⟨xa, xc, ya, yc, rfl, h1, h2, hb⟩
theorem wk_need (W : World) (xa ya : Option Addr) (xc yc : Nat) (h : RowAt 6 mkC W xa wkM) :
    Calls Try.prog 14 #[.agg #[.slice xa 1 xc, .slice ya 1 yc, .int .u64 1, .int .u32 1, .int .u64 3], .int .u64 1] W fun e w' => e = .returned (.tuple #[.int .u32 0, .int .u32 1]) ∧ Below W.heap.size W w' :=
  need_is 0 1 wkM xa ya 1 1 xc yc 1 1 3 1 wk_ok (by decide) (by decide) rfl W h wk_n wk_r
theorem wk_clash (W : World) (xa ya : Option Addr) (xc yc : Nat) (h : RowAt 6 mkC W xa wkM) :
    Calls Try.prog 16 #[.agg #[.slice xa 1 xc, .slice ya 1 yc, .int .u64 1, .int .u32 1, .int .u64 3], .int .u64 1] W fun e w' => e = .returned (.int .u64 0) ∧ Below W.heap.size W w' :=
  clash_is 0 wkM xa ya 1 1 xc yc 1 1 3 1 wk_ok (by decide) (by decide) rfl W h wk_k
attribute [local irreducible] Sl.v hasBit mayS Rt.tr Rt.nd checkS pw withBit withI ofN oneI sideL sideS firstS aheadS secOf rowS tabS tabL mkR mkF mksS liesS mksL liesL allL ptsL trsL formedS badS conflictS
attribute [local irreducible] orS inR wkM
set_option maxHeartbeats 4000000 in
theorem mworks_is (w : World) : Calls Try.prog 8 #[] w fun e w' => e = .returned (.bool true) ∧ Below w.heap.size w w' := by
  go_enter Try.func8, Try.ntmps8
  go_upto_region 2 with fail
  refine name_last (os := [_, _, _, _, _, _, _]) (w0 := w) rfl ?_
  intro W hat hbw
  obtain ⟨b, hb⟩ : ∃ b, b = w.heap.size := ⟨_, rfl⟩
  have q0 := hat 0 _ rfl
  have q1 := hat 1 _ rfl
  have q2 := hat 2 _ rfl
  have q3 := hat 3 _ rfl
  have q4 := hat 4 _ rfl
  have q5 := hat 5 _ rfl
  have q6 := hat 6 _ rfl
  rw [Nat.add_zero, ← hb] at q0
  rw [← hb] at q1 q2 q3 q4 q5 q6
  rw [← hb]
  clear hat
  have HL : Hid (LayAt W (wkL b)) := Lib.hid (by
    exact wk_at q0 q1 q2 q3 q4 q5)
  have q6' : W.heap[b + 1 + 1 + 1 + 1 + 1 + 1]? = some (.cells #[.slice (some ⟨b, 0, none⟩) 2 2, .slice (some ⟨b + 1, 0, none⟩) 1 1, .slice (some ⟨b + 1 + 1, 0, none⟩) 1 1, .slice (some ⟨b + 1 + 1 + 1 + 1 + 1, 0, none⟩) 1 1] 27) := q6
  obtain ⟨gl, hgl⟩ : ∃ g, g = b + 1 + 1 + 1 + 1 + 1 + 1 := ⟨_, rfl⟩
  rw [← hgl] at q6' ⊢
  have HQL := Lib.hid q6'
  have HB := Lib.hid hbw
  clear q0 q1 q2 q3 q4 q5 q6 q6' hb hgl hbw
  obtain ⟨l0, l1, l2, l3⟩ := k_box HQL.out
  go_wp2_with fail
  refine (wk_make b _ HL.out).mono ?_
  rintro e w1 ⟨xa, xc, ya, yc, rfl, hr1, hr2, hb⟩
  have HR1 := Lib.hid hr1
  have HR2 := Lib.hid hr2
  have HB1 := Lib.hid (below_on HB.out hb)
  clear hb hr1 hr2 l0 l1 l2 l3
  go_upto_region 3 with fail
  have hbx := below1 w1 (.cells #[.slice xa 1 xc, .slice ya 1 yc, .int .u64 1, .int .u32 1, .int .u64 3] 36)
  have hqx := alloc1 w1 (.cells #[.slice xa 1 xc, .slice ya 1 yc, .int .u64 1, .int .u32 1, .int .u64 3] 36) (Below.refl _ _)
  obtain ⟨w2, hw2⟩ : ∃ V, V = w1.alloc (.cells #[.slice xa 1 xc, .slice ya 1 yc, .int .u64 1, .int .u32 1, .int .u64 3] 36) := ⟨_, rfl⟩
  rw [← hw2] at hbx hqx ⊢
  obtain ⟨gm, hgm⟩ : ∃ g, g = w1.heap.size := ⟨_, rfl⟩
  rw [← hgm] at hqx ⊢
  have HQM := Lib.hid hqx
  have HB2 := Lib.hid (below_on HB1.out hbx)
  have HR12 := Lib.hid (HR1.out.below hbx)
  have HR22 := Lib.hid (HR2.out.below hbx)
  clear hbx hqx hw2 hgm
  have y0 := blk_cell HQM.out 0 _ rfl; have y1 := blk_cell HQM.out 1 _ rfl; have y2 := blk_cell HQM.out 2 _ rfl; have y3 := blk_cell HQM.out 3 _ rfl; have y4 := blk_cell HQM.out 4 _ rfl
  go_wp2_with fail
  refine (wk_need _ xa ya xc yc HR12.out).mono ?_
  rintro e w3 ⟨rfl, hb⟩
  have HB3 := Lib.hid (below_on HB2.out hb)
  have HQM3 := Lib.hid (blk_keep hb HQM.out)
  have HR13 := Lib.hid (HR12.out.below hb)
  have HR23 := Lib.hid (HR22.out.below hb)
  clear hb y0 y1 y2 y3 y4
  have y0 := blk_cell HQM3.out 0 _ rfl; have y1 := blk_cell HQM3.out 1 _ rfl; have y2 := blk_cell HQM3.out 2 _ rfl; have y3 := blk_cell HQM3.out 3 _ rfl; have y4 := blk_cell HQM3.out 4 _ rfl
  have hr1 := HR13.out
  have hr2 := HR23.out
  rcases hr1 with hnil | ⟨xb, xo, rfl, hc1⟩
  · unfold wkM at hnil; cases hnil
  rcases hr2 with hnil | ⟨zb, zo, rfl, hc2⟩
  · cases hnil
  have hk : wkM[0]? = some ⟨2, 2, 1, 0, 1, 0⟩ := by unfold wkM; rfl
  have u0 := hc1 0 _ hk 0 _ rfl; have u1 := hc1 0 _ hk 1 _ rfl; have u2 := hc1 0 _ hk 2 _ rfl; have u3 := hc1 0 _ hk 3 _ rfl; have u4 := hc1 0 _ hk 4 _ rfl; have u5 := hc1 0 _ hk 5 _ rfl
  have z0 := hc2 0 _ rfl 0 _ rfl
  simp only [Nat.zero_mul, Nat.add_zero] at u0 u1 u2 u3 u4 u5 z0
  clear hc1 hc2 hk
  go_wp2_with fail
  refine (wk_clash _ (some ⟨xb, xo, none⟩) (some ⟨zb, zo, none⟩) xc yc HR13.out).mono ?_
  rintro e w4 ⟨rfl, hb⟩
  have HB4 := Lib.hid (below_on HB3.out hb)
  clear hb
  go_wp2_with fail
  go_ret
  exact ⟨rfl, HB4.out⟩
theorem works_is (w : World) : Calls Try.prog 8 #[] w fun e w' => e = .returned (.bool true) ∧ Below w.heap.size w w' := mworks_is w
end Go.Proofs.Ytififkielmddpaa
