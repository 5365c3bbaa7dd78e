/-
  Layer 08: same.
-/
import Derived.Test.YtififkielmddpaaMkF
namespace Go.Proofs.Ytififkielmddpaa
open Go.RowKit
set_option maxRecDepth 100000
/-- two boxes of routes, made in any order -/
def KBox (w wx : World) (g1 g2 : Nat) (A B : Array Value) : Prop :=
  wx.heap[g1]? = some (.cells A 49) ∧ wx.heap[g2]? = some (.cells B 50) ∧ Below w.heap.size w wx
theorem kbox_up (w : World) (A B : Array Value) : KBox w ((w.alloc (.cells A 49)).alloc (.cells B 50)).drew w.heap.size (w.heap.size + 1) A B := by
  have h := allocs_at [.cells A 49, .cells B 50] w
  exact ⟨h 0 _ rfl, h 1 _ rfl, (allocs_below [.cells A 49, .cells B 50] w).drew⟩
theorem kbox_down (w : World) (A B : Array Value) : KBox w ((w.alloc (.cells B 50)).alloc (.cells A 49)).drew (w.heap.size + 1) w.heap.size A B := by
  have h := allocs_at [.cells B 50, .cells A 49] w
  exact ⟨h 1 _ rfl, h 0 _ rfl, (allocs_below [.cells B 50, .cells A 49] w).drew⟩
theorem below_alK {w W : World} (h : Below w.heap.size w W) (o : Obj) : Below w.heap.size w (W.alloc o) := below_on h (below1 W o)
theorem KBox.out {w wx : World} {g1 g2 : Nat} {A B : Array Value} (h : KBox w wx g1 g2 A B) : wx.heap[g1]? = some (.cells A 49) ∧ wx.heap[g2]? = some (.cells B 50) ∧ Below w.heap.size w wx := h
attribute [local irreducible] Sl.v hasBit mayS Rt.tr Rt.nd checkS pw withBit withI ofN oneI sideL sideS firstS aheadS secOf rowS tabS tabL mkR mkF mksS liesS mksL liesL allL ptsL trsL formedS badS conflictS
attribute [local irreducible] KBox

set_option maxHeartbeats 8000000 in
theorem same_is (R : List Mk) (Z : List Nat) (x1 x2 y1 y2 : Option Addr) (m n c1 c2 d1 d2 al pt tr : Nat) (hm : m ≤ 100000) (hn : n ≤ 100000) (hlm : R.length = m) (hln : Z.length = n) (w : World) (hr1 : RowAt 6 mkC w x1 R) (hr2 : RowAt 6 mkC w x2 R) (hz1 : RowAt 1 u64C w y1 Z) (hz2 : RowAt 1 u64C w y2 Z) :
    Calls Try.prog 12 #[.agg #[.slice x1 m c1, .slice y1 n d1, .int .u64 (al : Int), .int .u32 (pt : Int), .int .u64 (tr : Int)], .agg #[.slice x2 m c2, .slice y2 n d2, .int .u64 (al : Int), .int .u32 (pt : Int), .int .u64 (tr : Int)]] w fun e w' => e = .returned (.bool true) ∧ Below w.heap.size w w' := by
  have HR1 := Lib.hid hr1
  have HR2 := Lib.hid hr2
  have HZ1 := Lib.hid hz1
  have HZ2 := Lib.hid hz2
  have HM := Lib.hid hm
  have HN := Lib.hid hn
  have HLM := Lib.hid hlm
  have HLN := Lib.hid hln
  clear hr1 hr2 hz1 hz2 hm hn hlm hln
  go_enter Try.func12, Try.ntmps12
  go_upto_region 1 with fail
  refine name_last (os := [.cells #[.slice x1 m c1, .slice y1 n d1, .int .u64 (al : Int), .int .u32 (pt : Int), .int .u64 (tr : Int)] 36, .cells #[.slice x2 m c2, .slice y2 n d2, .int .u64 (al : Int), .int .u32 (pt : Int), .int .u64 (tr : Int)] 42]) (w0 := w) rfl ?_
  intro W hat hbw
  obtain ⟨g2, hg2⟩ : ∃ g, g = w.heap.size := ⟨_, rfl⟩
  obtain ⟨g3, hg3⟩ : ∃ g, g = g2 + 1 := ⟨_, rfl⟩
  have q0 := hat 0 _ rfl
  have q1 := hat 1 _ rfl
  rw [Nat.add_zero, ← hg2] at q0
  rw [← hg2, ← hg3] at q1
  rw [← hg2, ← hg3]
  have HQ2 := Lib.hid q0
  have HQ3 := Lib.hid q1
  have HB0 := Lib.hid hbw
  clear hat hbw hg2 hg3 q0 q1
  have y0 := blk_cell HQ2.out 0 _ rfl; have y1 := blk_cell HQ2.out 1 _ rfl; have y2 := blk_cell HQ2.out 2 _ rfl; have y3 := blk_cell HQ2.out 3 _ rfl; have y4 := blk_cell HQ2.out 4 _ rfl
  have u0 := blk_cell HQ3.out 0 _ rfl; have u1 := blk_cell HQ3.out 1 _ rfl; have u2 := blk_cell HQ3.out 2 _ rfl; have u3 := blk_cell HQ3.out 3 _ rfl; have u4 := blk_cell HQ3.out 4 _ rfl
  go_upto_region 4 with fail
  clear y0 u0 y1 u1 y2 u2 y3 u3 y4 u4
  go_loopg [5] m (fun g v wr => ∃ i : Nat, i + g = m ∧ v = .int .i64 (i : Int) ∧ Below W.heap.size W wr)
  case atStart => exact ⟨0, by omega, rfl, Below.refl _ _⟩
  case round =>
    obtain ⟨i, hi, rfl, hbw⟩ := hrel
    have HI := Lib.hid hi
    have HB := Lib.hid hbw
    have k0 := blk_cell (blk_keep hbw HQ2.out) 0 _ rfl
    have k1 := blk_cell (blk_keep hbw HQ3.out) 0 _ rfl
    clear hi hbw
    by_cases hlt : i < m
    · have d1' : (0 : Int) ≤ i := by omega
      have d2' : (i : Int) < m := by omega
      have e1 := k_succ hlt (Nat.le_trans HM.out (by decide))
      have HLT := Lib.hid hlt
      obtain ⟨x, hx⟩ : ∃ x, R[i]? = some x := ⟨_, List.getElem?_eq_getElem (by rw [HLM.out]; exact hlt)⟩
      obtain ⟨X, hX⟩ : ∃ a, x1 = a := ⟨_, rfl⟩
      obtain ⟨Y, hY⟩ : ∃ a, x2 = a := ⟨_, rfl⟩
      have HXX := Lib.hid hX
      have HZZ := Lib.hid hY
      have hr1 := HR1.out
      have hr2 := HR2.out
      rw [hX] at hr1 k0 ⊢
      rw [hY] at hr2 k1 ⊢
      rcases hr1 with hnil | ⟨xb, xo, hxb, hc1⟩
      · rw [hnil] at hx; cases hx
      rcases hr2 with hnil | ⟨zb, zo, hzb, hc2⟩
      · rw [hnil] at hx; cases hx
      subst hxb
      subst hzb
      have HX1 := Lib.hid k0
      have HX2 := Lib.hid k1
      have HE1 : Hid (∀ j v, (mkC x)[j]? = some v → wr.cell? ⟨xb, xo + i * 6 + j, none⟩ = some v) := Lib.hid (fun j v hv => cell_later (below_on HB0.out HB.out) (hc1 i x hx j v hv))
      have HE2 : Hid (∀ j v, (mkC x)[j]? = some v → wr.cell? ⟨zb, zo + i * 6 + j, none⟩ = some v) := Lib.hid (fun j v hv => cell_later (below_on HB0.out HB.out) (hc2 i x hx j v hv))
      clear hc1 hc2 hx hlt hX hY
      go_upto_region 6 with fail
      clear k0 k1
      have HS : Hid (∀ w', Below wr.heap.size wr w' → w'.cell? ⟨g2, 0, none⟩ = some (.slice (some ⟨xb, xo, none⟩) m c1) ∧ w'.cell? ⟨g3, 0, none⟩ = some (.slice (some ⟨zb, zo, none⟩) m c2) ∧ w'.cell? ⟨xb, xo + i * 6, none⟩ = some (.int .u64 (x.t : Int)) ∧ w'.cell? ⟨xb, xo + i * 6 + 1, none⟩ = some (.int .u64 (x.f : Int)) ∧ w'.cell? ⟨xb, xo + i * 6 + 2, none⟩ = some (.int .u64 (x.a : Int)) ∧ w'.cell? ⟨xb, xo + i * 6 + 3, none⟩ = some (.int .u32 (x.n : Int)) ∧ w'.cell? ⟨xb, xo + i * 6 + 4, none⟩ = some (.int .u32 (x.r : Int)) ∧ w'.cell? ⟨xb, xo + i * 6 + 5, none⟩ = some (.int .u64 (x.c : Int)) ∧ w'.cell? ⟨zb, zo + i * 6, none⟩ = some (.int .u64 (x.t : Int)) ∧ w'.cell? ⟨zb, zo + i * 6 + 1, none⟩ = some (.int .u64 (x.f : Int)) ∧ w'.cell? ⟨zb, zo + i * 6 + 2, none⟩ = some (.int .u64 (x.a : Int)) ∧ w'.cell? ⟨zb, zo + i * 6 + 3, none⟩ = some (.int .u32 (x.n : Int)) ∧ w'.cell? ⟨zb, zo + i * 6 + 4, none⟩ = some (.int .u32 (x.r : Int)) ∧ w'.cell? ⟨zb, zo + i * 6 + 5, none⟩ = some (.int .u64 (x.c : Int))) := Lib.hid (fun w' hw' => ⟨cell_later hw' HX1.out, cell_later hw' HX2.out, (by have := HE1.out 0 _ rfl; rw [Nat.add_zero] at this; exact cell_later hw' this), cell_later hw' (HE1.out 1 _ rfl), cell_later hw' (HE1.out 2 _ rfl), cell_later hw' (HE1.out 3 _ rfl), cell_later hw' (HE1.out 4 _ rfl), cell_later hw' (HE1.out 5 _ rfl), (by have := HE2.out 0 _ rfl; rw [Nat.add_zero] at this; exact cell_later hw' this), cell_later hw' (HE2.out 1 _ rfl), cell_later hw' (HE2.out 2 _ rfl), cell_later hw' (HE2.out 3 _ rfl), cell_later hw' (HE2.out 4 _ rfl), cell_later hw' (HE2.out 5 _ rfl)⟩)
      clear HE1 HE2 HX1 HX2
      obtain ⟨wq, rfl⟩ : ∃ W, W = wr := ⟨_, rfl⟩
      go_cut [6, 7] (fun s6 s7 wx => ∃ g6 g7 : Nat, s6 = .pointer (some ⟨g6, 0, none⟩) ∧ s7 = .pointer (some ⟨g7, 0, none⟩) ∧ KBox wq wx g6 g7 #[.int .u64 (x.t : Int), .int .u64 (x.f : Int), .int .u64 (x.a : Int), .int .u32 (x.n : Int), .int .u32 (x.r : Int), .int .u64 (x.c : Int)] #[.int .u64 (x.t : Int), .int .u64 (x.f : Int), .int .u64 (x.a : Int), .int .u32 (x.n : Int), .int .u32 (x.r : Int), .int .u64 (x.c : Int)])
      case first =>
        go_region_held3 (fun w' => w'.cell? ⟨g2, 0, none⟩ = some (.slice (some ⟨xb, xo, none⟩) m c1) ∧ w'.cell? ⟨g3, 0, none⟩ = some (.slice (some ⟨zb, zo, none⟩) m c2) ∧ w'.cell? ⟨xb, xo + i * 6, none⟩ = some (.int .u64 (x.t : Int)) ∧ w'.cell? ⟨xb, xo + i * 6 + 1, none⟩ = some (.int .u64 (x.f : Int)) ∧ w'.cell? ⟨xb, xo + i * 6 + 2, none⟩ = some (.int .u64 (x.a : Int)) ∧ w'.cell? ⟨xb, xo + i * 6 + 3, none⟩ = some (.int .u32 (x.n : Int)) ∧ w'.cell? ⟨xb, xo + i * 6 + 4, none⟩ = some (.int .u32 (x.r : Int)) ∧ w'.cell? ⟨xb, xo + i * 6 + 5, none⟩ = some (.int .u64 (x.c : Int)) ∧ w'.cell? ⟨zb, zo + i * 6, none⟩ = some (.int .u64 (x.t : Int)) ∧ w'.cell? ⟨zb, zo + i * 6 + 1, none⟩ = some (.int .u64 (x.f : Int)) ∧ w'.cell? ⟨zb, zo + i * 6 + 2, none⟩ = some (.int .u64 (x.a : Int)) ∧ w'.cell? ⟨zb, zo + i * 6 + 3, none⟩ = some (.int .u32 (x.n : Int)) ∧ w'.cell? ⟨zb, zo + i * 6 + 4, none⟩ = some (.int .u32 (x.r : Int)) ∧ w'.cell? ⟨zb, zo + i * 6 + 5, none⟩ = some (.int .u64 (x.c : Int)))
          (exact HS.out _ (by repeat first | exact (Below.refl _ wq) | assumption | (with_reducible refine Below.drew ?_) | (with_reducible refine below_alK ?_ _)))
          (fail)
        all_goals go_wp2
        all_goals go_meet
        all_goals first
          | exact ⟨_, _, rfl, rfl, kbox_up wq _ _⟩
          | exact ⟨_, _, rfl, rfl, kbox_down wq _ _⟩
      case rest =>
      obtain ⟨g6, g7, rfl, rfl, htb⟩ := hcut
      have hqb := KBox.out htb
      have HQ6B := Lib.hid hqb.1
      have HQ7B := Lib.hid hqb.2.1
      have HBB := Lib.hid (below_on HB.out hqb.2.2)
      clear htb hqb HS
      have y0 := blk_cell HQ6B.out 0 _ rfl; have y1 := blk_cell HQ6B.out 1 _ rfl; have y2 := blk_cell HQ6B.out 2 _ rfl; have y3 := blk_cell HQ6B.out 3 _ rfl; have y4 := blk_cell HQ6B.out 4 _ rfl; have y5 := blk_cell HQ6B.out 5 _ rfl
      have u0 := blk_cell HQ7B.out 0 _ rfl; have u1 := blk_cell HQ7B.out 1 _ rfl; have u2 := blk_cell HQ7B.out 2 _ rfl; have u3 := blk_cell HQ7B.out 3 _ rfl; have u4 := blk_cell HQ7B.out 4 _ rfl; have u5 := blk_cell HQ7B.out 5 _ rfl
      go_wp2_with fail
      rw [← HXX.out, ← HZZ.out]
      go_roundg (m - (i + 1))
      case rel => exact ⟨i + 1, k_next HI.out HLT.out, by go_num, HBB.out⟩
      case measure => exact k_less HI.out HLT.out
    · have d2' : ¬ (i : Int) < m := by omega
      clear hlt
      go_upto_region 10 with fail
      clear k0 k1
      obtain ⟨W2, rfl⟩ : ∃ V, V = wr := ⟨_, rfl⟩
      go_loopg [8] n (fun g v wr => ∃ j : Nat, j + g = n ∧ v = .int .i64 (j : Int) ∧ Below W.heap.size W wr)
      case atStart => exact ⟨0, by omega, rfl, HB.out⟩
      case round =>
        obtain ⟨j, hj, rfl, hbw⟩ := hrel
        have HJ := Lib.hid hj
        have HBJ := Lib.hid hbw
        have k0 := blk_cell (blk_keep hbw HQ2.out) 1 _ rfl
        have k1 := blk_cell (blk_keep hbw HQ3.out) 1 _ rfl
        clear hj hbw
        by_cases hlj : j < n
        · have d3 : (0 : Int) ≤ j := by omega
          have d4 : (j : Int) < n := by omega
          have e2 := k_succ hlj (Nat.le_trans HN.out (by decide))
          have HLJ := Lib.hid hlj
          obtain ⟨z, hz⟩ : ∃ z, Z[j]? = some z := ⟨_, List.getElem?_eq_getElem (by rw [HLN.out]; exact hlj)⟩
          obtain ⟨X, hX⟩ : ∃ a, y1 = a := ⟨_, rfl⟩
          obtain ⟨Y, hY⟩ : ∃ a, y2 = a := ⟨_, rfl⟩
          have HXX := Lib.hid hX
          have HZZ := Lib.hid hY
          have hr1 := HZ1.out
          have hr2 := HZ2.out
          rw [hX] at hr1 k0 ⊢
          rw [hY] at hr2 k1 ⊢
          rcases hr1 with hnil | ⟨xb, xo, hxb, hc1⟩
          · rw [hnil] at hz; cases hz
          rcases hr2 with hnil | ⟨zb, zo, hzb, hc2⟩
          · rw [hnil] at hz; cases hz
          subst hxb
          subst hzb
          have HX1 := Lib.hid k0
          have HX2 := Lib.hid k1
          have p0 := cell_later (below_on HB0.out HBJ.out) (hc1 j z hz 0 _ rfl)
          have p1 := cell_later (below_on HB0.out HBJ.out) (hc2 j z hz 0 _ rfl)
          rw [Nat.add_zero, Nat.mul_one] at p0 p1
          have HP0 := Lib.hid p0
          have HP1 := Lib.hid p1
          clear hc1 hc2 hz hlj hX hY p0 p1
          go_upto_region 12 with fail
          clear k0 k1
          refine wp_region_calm (by kernel_rfl) ?_ ?_
          · kernel_rfl
          repeat first
           | go_big_quiet_skip
           | (go_big_quiet_want; go_big_quiet_op; go_big_quiet_on)
           | (with_reducible apply wpQuiet_step
              intro K hK
              go_simp
              first
                | (refine hK _ ?_; clear hK K)
                | (apply Exists.intro
                   refine ⟨fun w' hw' => ?_, hK _ ?_⟩
                   ·
                     (first
                      | (have l := cell_later hw' HX1.out
                         go_simp
                         first | done | with_reducible exact rfl | with_reducible exact ⟨rfl, rfl⟩)
                      | (have l := cell_later hw' HX2.out
                         go_simp
                         first | done | with_reducible exact rfl | with_reducible exact ⟨rfl, rfl⟩)
                      | (have l := cell_later hw' HP0.out
                         go_simp
                         first | done | with_reducible exact rfl | with_reducible exact ⟨rfl, rfl⟩)
                      | (have l := cell_later hw' HP1.out
                         go_simp
                         first | done | with_reducible exact rfl | with_reducible exact ⟨rfl, rfl⟩))
                   clear hK K))
          refine wpQuiet_nil ?_
          intro w7 hw7
          have HB7 := Lib.hid (below_on HBJ.out hw7)
          clear hw7
          go_wp2_with fail
          rw [← HXX.out, ← HZZ.out]
          go_roundg (n - (j + 1))
          case rel => exact ⟨j + 1, k_next HJ.out HLJ.out, by go_num, HB7.out⟩
          case measure => exact k_less HJ.out HLJ.out
        · have d4 : ¬ (j : Int) < n := by omega
          clear hlj
          go_wp2_with fail
          go_ret
          exact ⟨rfl, below_on HB0.out HBJ.out⟩
end Go.Proofs.Ytififkielmddpaa
