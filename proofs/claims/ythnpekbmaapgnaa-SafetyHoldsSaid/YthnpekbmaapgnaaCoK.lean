/-
 Layer 06: conflict.Pair.
-/
import Derived.Test.YthnpekbmaapgnaaMF
import Derived.Test.YthnpekbmaapgnaaMC
namespace Go.Proofs.Ythnpekbmaapgnaa
open Go.RowKit
set_option maxRecDepth 100000
attribute [local irreducible] hasI hasP dupI dupN okPt okPts secOf formedS Sl.v cntI ixF mayS conflictS pairS

set_option maxHeartbeats 8000000 in
theorem pair_is (L : Lay) (a b : Int) (z : Bool) (hz : pairS L a b = z) (w : World) (hL : LayAt w L) :
 Calls Try.prog 26 #[.agg #[L.se.v, L.po.v, L.sg.v, L.rt.v], .int .i64 a, .int .i64 b] w fun e w' => e = .returned (.bool z) ∧ Below w.heap.size w w' := by
 obtain ⟨B, hB⟩ : ∃ B, mayS L = B := ⟨_, rfl⟩
 have HMAY : Hid (∀ W, Below w.heap.size w W → Calls Try.prog 52 #[.agg #[L.se.v, L.po.v, L.sg.v, L.rt.v]] W fun e w' => e = .returned (.bool B) ∧ Below W.heap.size W w') := Lib.hid (fun W hW => hB ▸ may_lay L W (hL.below hW))
 have HCF : Hid (mayS L = true → ∀ x ∈ L.rt.l, ∀ y ∈ L.rt.l, ∀ W, Below w.heap.size w W → Calls Try.prog 57 #[.agg #[L.se.v, L.po.v, L.sg.v, L.rt.v], .agg #[.string x.nm, .int .i64 x.sg, x.pa.v, x.po.v, x.ov.v, x.fl.v], .agg #[.string y.nm, .int .i64 y.sg, y.pa.v, y.po.v, y.ov.v, y.fl.v]] W fun e w' => e = .returned (.bool (conflictS L x y)) ∧ Below W.heap.size W w') := Lib.hid (fun hmay x hx y hy W hW => by
  have ox := mayS_rt hmay x hx
  have oy := mayS_rt hmay y hy
  have hx1 : x.pa.l.length + x.ov.l.length ≤ 100000 := by have := ox.pa; have := ox.ov; omega
  have hx2 : x.po.l.length + x.fl.l.length ≤ 100000 := by have := ox.po; have := ox.fl; omega
  have hy1 : y.pa.l.length + y.ov.l.length ≤ 100000 := by have := oy.pa; have := oy.ov; omega
  have hy2 : y.po.l.length + y.fl.l.length ≤ 100000 := by have := oy.po; have := oy.fl; omega
  exact conflict_is L x y W (hL.below hW) ((hL.rn x hx).below hW) ((hL.rn y hy).below hW) (by have := mayS_small hmay; omega) ⟨hx1, hx2⟩ ⟨hy1, hy2⟩)
 have HROW := Lib.hid hL.rt.row
 have HBB := Lib.hid hB
 clear hB
 obtain ⟨n1, hn1⟩ : ∃ n, L.se.l.length = n := ⟨_, rfl⟩
 obtain ⟨n2, hn2⟩ : ∃ n, L.po.l.length = n := ⟨_, rfl⟩
 obtain ⟨n3, hn3⟩ : ∃ n, L.sg.l.length = n := ⟨_, rfl⟩
 obtain ⟨n4, hn4⟩ : ∃ n, L.rt.l.length = n := ⟨_, rfl⟩
 have HN4 := Lib.hid hn4
 have HM4 : Hid (n4 ≤ 9223372036854775807) := Lib.hid (by rw [← hn4]; exact hL.rt.lenM)
 rw [slv hn1, slv hn2, slv hn3, slv hn4] at HMAY HCF ⊢
 clear hn1 hn2 hn3 hn4 hL
 obtain ⟨gl, hgl⟩ : ∃ g, g = w.heap.size := ⟨_, rfl⟩
 have HGL := Lib.hid hgl
 clear hgl
 have HZ := Lib.hid hz
 clear hz
 go_enter Try.func26, Try.ntmps26
 go_upto_region 1 with fail
 obtain ⟨w1, hw1⟩ : ∃ V, V = w.alloc (.cells #[.slice L.se.a n1 L.se.c, .slice L.po.a n2 L.po.c, .slice L.sg.a n3 L.sg.c, .slice L.rt.a n4 L.rt.c] 27) := ⟨_, rfl⟩
 have hq := alloc1 w (.cells #[.slice L.se.a n1 L.se.c, .slice L.po.a n2 L.po.c, .slice L.sg.a n3 L.sg.c, .slice L.rt.a n4 L.rt.c] 27) (Below.refl _ _)
 have hbw := below1 w (.cells #[.slice L.se.a n1 L.se.c, .slice L.po.a n2 L.po.c, .slice L.sg.a n3 L.sg.c, .slice L.rt.a n4 L.rt.c] 27)
 rw [← hw1] at hq hbw ⊢
 rw [← HGL.out] at hq ⊢
 have HB1 := Lib.hid hbw
 have HQ := Lib.hid hq
 clear hbw hq hw1
 have l3 := blk_cell HQ.out 3 _ rfl
 have HM : Hid (∀ W, Below w1.heap.size w1 W → Calls Try.prog 52 #[.agg #[.slice L.se.a n1 L.se.c, .slice L.po.a n2 L.po.c, .slice L.sg.a n3 L.sg.c, .slice L.rt.a n4 L.rt.c]] W fun e w' => e = .returned (.bool B) ∧ Below w1.heap.size w1 w') := Lib.hid (fun W hW => (HMAY.out W (below_on HB1.out hW)).mono (fun e w9 h => ⟨h.1, below_on hW h.2⟩))
 clear HMAY
 obtain ⟨mn, hmn⟩ : ∃ m, min a b = m := ⟨_, rfl⟩
 obtain ⟨mx, hmx⟩ : ∃ m, max a b = m := ⟨_, rfl⟩
 by_cases h1 : 0 ≤ mn
 rotate_left
 ·have HF : Hid (false = z) := Lib.hid (by rw [← HZ.out]; exact (ps_no (fun h => h1 (by omega))).symm)
  clear HZ HCF HROW

  go_upto_region 2 with fail
  refine wp_region_calm (by kernel_rfl) ?_ ?_
  ·kernel_rfl
  repeat first
   | go_big_quiet_skip
   | (go_big_quiet_want; go_big_quiet_op; go_big_quiet_on)
   | (with_reducible apply wpQuiet_step
      intro K hK
      go_simp
      first
       | (refine hK _ ?_; clear hK K)
       | (apply Exists.intro
          refine ⟨fun w' hw' => ?_, hK _ ?_⟩
          ·
           (first
            | (have g0 := blk_cell (blk_keep hw' HQ.out) 0 _ rfl
               have g1 := blk_cell (blk_keep hw' HQ.out) 1 _ rfl
               have g2 := blk_cell (blk_keep hw' HQ.out) 2 _ rfl
               have g3 := blk_cell (blk_keep hw' HQ.out) 3 _ rfl
               go_simp
               first | done | with_reducible exact rfl | with_reducible exact ⟨rfl, rfl⟩))
          clear hK K))
  refine wpQuiet_nil ?_
  intro w7 hw7
  have HB7 := Lib.hid (below_on HB1.out hw7)
  clear hw7
  go_wp2_with fail
  go_ret
  exact ⟨by rw [← HF.out]; rfl, HB7.out⟩
 by_cases h2 : mx < n4
 rotate_left
 ·have HF : Hid (false = z) := Lib.hid (by rw [← HZ.out]; exact (ps_no (fun h => h2 (by have := HN4.out; omega))).symm)
  clear HZ HCF HROW

  go_upto_region 2 with fail
  refine wp_region_calm (by kernel_rfl) ?_ ?_
  ·kernel_rfl
  repeat first
   | go_big_quiet_skip
   | (go_big_quiet_want; go_big_quiet_op; go_big_quiet_on)
   | (with_reducible apply wpQuiet_step
      intro K hK
      go_simp
      first
       | (refine hK _ ?_; clear hK K)
       | (apply Exists.intro
          refine ⟨fun w' hw' => ?_, hK _ ?_⟩
          ·
           (first
            | (have g0 := blk_cell (blk_keep hw' HQ.out) 0 _ rfl
               have g1 := blk_cell (blk_keep hw' HQ.out) 1 _ rfl
               have g2 := blk_cell (blk_keep hw' HQ.out) 2 _ rfl
               have g3 := blk_cell (blk_keep hw' HQ.out) 3 _ rfl
               go_simp
               first | done | with_reducible exact rfl | with_reducible exact ⟨rfl, rfl⟩))
          clear hK K))
  refine wpQuiet_nil ?_
  intro w7 hw7
  have HB7 := Lib.hid (below_on HB1.out hw7)
  clear hw7
  go_wp2_with fail
  go_ret
  exact ⟨by rw [← HF.out]; rfl, HB7.out⟩
 by_cases h5 : a ≠ b
 rotate_left
 ·have HF : Hid (false = z) := Lib.hid (by rw [← HZ.out]; exact (ps_no (fun h => h5 h.2.2.2.2)).symm)
  clear HZ HCF HROW

  go_upto_region 2 with fail
  refine wp_region_calm (by kernel_rfl) ?_ ?_
  ·kernel_rfl
  repeat first
   | go_big_quiet_skip
   | (go_big_quiet_want; go_big_quiet_op; go_big_quiet_on)
   | (with_reducible apply wpQuiet_step
      intro K hK
      go_simp
      first
       | (refine hK _ ?_; clear hK K)
       | (apply Exists.intro
          refine ⟨fun w' hw' => ?_, hK _ ?_⟩
          ·
           (first
            | (have g0 := blk_cell (blk_keep hw' HQ.out) 0 _ rfl
               have g1 := blk_cell (blk_keep hw' HQ.out) 1 _ rfl
               have g2 := blk_cell (blk_keep hw' HQ.out) 2 _ rfl
               have g3 := blk_cell (blk_keep hw' HQ.out) 3 _ rfl
               go_simp
               first | done | with_reducible exact rfl | with_reducible exact ⟨rfl, rfl⟩))
          clear hK K))
  refine wpQuiet_nil ?_
  intro w7 hw7
  have HB7 := Lib.hid (below_on HB1.out hw7)
  clear hw7
  go_wp2_with fail
  go_ret
  exact ⟨by rw [← HF.out]; rfl, HB7.out⟩
 cases B with
 | false =>
   have HF : Hid (false = z) := Lib.hid (by rw [← HZ.out]; exact (ps_may HBB.out).symm)
   clear HZ HCF HROW
   go_upto_region 2 with fail
   refine wp_region_calm (by kernel_rfl) ?_ ?_
   ·kernel_rfl
   repeat first
    | go_big_quiet_skip
    | (go_big_quiet_want; go_big_quiet_op; go_big_quiet_on)
    | (with_reducible apply wpQuiet_step
       intro K hK
       go_simp
       first
        | (refine hK _ ?_; clear hK K)
        | (apply Exists.intro
           refine ⟨fun w' hw' => ?_, hK _ ?_⟩
           ·
            (first
             | with_reducible exact HM.out _ hw'
             | (have g0 := blk_cell (blk_keep hw' HQ.out) 0 _ rfl
                have g1 := blk_cell (blk_keep hw' HQ.out) 1 _ rfl
                have g2 := blk_cell (blk_keep hw' HQ.out) 2 _ rfl
                have g3 := blk_cell (blk_keep hw' HQ.out) 3 _ rfl
                go_simp
                first | done | with_reducible exact rfl | with_reducible exact ⟨rfl, rfl⟩ | with_reducible exact HM.out _ hw'))
           clear hK K))
   refine wpQuiet_nil ?_
   intro w7 hw7
   have HB7 := Lib.hid (below_on HB1.out hw7)
   clear hw7
   go_wp2_with fail
   go_ret
   exact ⟨by rw [← HF.out]; rfl, HB7.out⟩
 | true =>
   obtain ⟨i, rfl⟩ : ∃ i : Nat, a = i := ⟨a.toNat, by omega⟩
   obtain ⟨k, rfl⟩ : ∃ k : Nat, b = k := ⟨b.toNat, by omega⟩
   have hli : i < n4 := by omega
   have hlk : k < n4 := by omega
   rcases HROW.out.below HB1.out with hnil | ⟨xb, off, hxb, hc⟩
   ·have := HN4.out; rw [hnil] at this; simp at this; omega
   obtain ⟨x, hyx⟩ : ∃ y, L.rt.l[i]? = some y := ⟨_, List.getElem?_eq_getElem (by rw [HN4.out]; exact hli)⟩
   have z0 := hc i _ hyx 0 _ rfl
   have z1 := hc i _ hyx 1 _ rfl
   have z2 := hc i _ hyx 2 _ rfl
   have z3 := hc i _ hyx 3 _ rfl
   have z4 := hc i _ hyx 4 _ rfl
   have z5 := hc i _ hyx 5 _ rfl
   rw [Nat.add_zero] at z0
   obtain ⟨p1, hp1⟩ : ∃ n, x.pa.l.length = n := ⟨_, rfl⟩
   obtain ⟨p2, hp2⟩ : ∃ n, x.po.l.length = n := ⟨_, rfl⟩
   obtain ⟨p3, hp3⟩ : ∃ n, x.ov.l.length = n := ⟨_, rfl⟩
   obtain ⟨p4, hp4⟩ : ∃ n, x.fl.l.length = n := ⟨_, rfl⟩
   rw [slv hp1] at z2
   rw [slv hp2] at z3
   rw [slv hp3] at z4
   rw [slv hp4] at z5
   have HZA := Lib.hid (And.intro z0 (And.intro z1 (And.intro z2 (And.intro z3 (And.intro z4 z5)))))
   clear z0 z1 z2 z3 z4 z5
   obtain ⟨y, hyy⟩ : ∃ y, L.rt.l[k]? = some y := ⟨_, List.getElem?_eq_getElem (by rw [HN4.out]; exact hlk)⟩
   have y0 := hc k _ hyy 0 _ rfl
   have y1 := hc k _ hyy 1 _ rfl
   have y2 := hc k _ hyy 2 _ rfl
   have y3 := hc k _ hyy 3 _ rfl
   have y4 := hc k _ hyy 4 _ rfl
   have y5 := hc k _ hyy 5 _ rfl
   rw [Nat.add_zero] at y0
   obtain ⟨q1, hq1⟩ : ∃ n, y.pa.l.length = n := ⟨_, rfl⟩
   obtain ⟨q2, hq2⟩ : ∃ n, y.po.l.length = n := ⟨_, rfl⟩
   obtain ⟨q3, hq3⟩ : ∃ n, y.ov.l.length = n := ⟨_, rfl⟩
   obtain ⟨q4, hq4⟩ : ∃ n, y.fl.l.length = n := ⟨_, rfl⟩
   rw [slv hq1] at y2
   rw [slv hq2] at y3
   rw [slv hq3] at y4
   rw [slv hq4] at y5
   have HZB := Lib.hid (And.intro y0 (And.intro y1 (And.intro y2 (And.intro y3 (And.intro y4 y5)))))
   clear y0 y1 y2 y3 y4 y5
   have hcall := fun W (hW : Below w1.heap.size w1 W) => HCF.out HBB.out x (List.mem_of_getElem? hyx) y (List.mem_of_getElem? hyy) W (below_on HB1.out hW)
   rw [ps_at HBB.out hyx hyy (by omega)] at HZ
   rw [HZ.out, slv hp1, slv hp2, slv hp3, slv hp4, slv hq1, slv hq2, slv hq3, slv hq4] at hcall
   have HC : Hid (∀ W, Below w1.heap.size w1 W → Calls Try.prog 57 #[.agg #[.slice L.se.a n1 L.se.c, .slice L.po.a n2 L.po.c, .slice L.sg.a n3 L.sg.c, .slice L.rt.a n4 L.rt.c], .agg #[.string x.nm, .int .i64 x.sg, .slice x.pa.a p1 x.pa.c, .slice x.po.a p2 x.po.c, .slice x.ov.a p3 x.ov.c, .slice x.fl.a p4 x.fl.c], .agg #[.string y.nm, .int .i64 y.sg, .slice y.pa.a q1 y.pa.c, .slice y.po.a q2 y.po.c, .slice y.ov.a q3 y.ov.c, .slice y.fl.a q4 y.fl.c]] W fun e w' => e = .returned (.bool z) ∧ Below w1.heap.size w1 w') := Lib.hid (fun W hW => (hcall W hW).mono (fun e w9 h => ⟨h.1, below_on hW h.2⟩))
   have d1 : (0 : Int) ≤ i := by omega
   have d2 : (i : Int) < n4 := by omega
   have d3 : (0 : Int) ≤ k := by omega
   have d4 : (k : Int) < n4 := by omega
   clear hcall hyx hyy HCF HROW hp1 hp2 hp3 hp4 hq1 hq2 hq3 hq4 hc
   obtain ⟨X, hX⟩ : ∃ x, L.rt.a = x := ⟨_, rfl⟩
   have HXX := Lib.hid hX
   rw [hX] at l3 HQ HC HM hxb ⊢
   subst hxb
   clear hX
   go_upto_region 2 with fail
   refine wp_region_calm (by kernel_rfl) ?_ ?_
   ·kernel_rfl
   repeat first
    | go_big_quiet_skip
    | (go_big_quiet_want; go_big_quiet_op; go_big_quiet_on)
    | (with_reducible apply wpQuiet_step
       intro K hK
       go_simp
       first
        | (refine hK _ ?_; clear hK K)
        | (apply Exists.intro
           refine ⟨fun w' hw' => ?_, hK _ ?_⟩
           ·
            (first
             | with_reducible exact HM.out _ hw'
             | with_reducible exact HC.out _ hw'
             | (have g0 := blk_cell (blk_keep hw' HQ.out) 0 _ rfl
                have g1 := blk_cell (blk_keep hw' HQ.out) 1 _ rfl
                have g2 := blk_cell (blk_keep hw' HQ.out) 2 _ rfl
                have g3 := blk_cell (blk_keep hw' HQ.out) 3 _ rfl
                have f0 := cell_later hw' HZA.out.1
                have f1 := cell_later hw' HZA.out.2.1
                have f2 := cell_later hw' HZA.out.2.2.1
                have f3 := cell_later hw' HZA.out.2.2.2.1
                have f4 := cell_later hw' HZA.out.2.2.2.2.1
                have f5 := cell_later hw' HZA.out.2.2.2.2.2
                have h0 := cell_later hw' HZB.out.1
                have h1 := cell_later hw' HZB.out.2.1
                have h2 := cell_later hw' HZB.out.2.2.1
                have h3 := cell_later hw' HZB.out.2.2.2.1
                have h4 := cell_later hw' HZB.out.2.2.2.2.1
                have h5 := cell_later hw' HZB.out.2.2.2.2.2
                go_simp
                first | done | with_reducible exact rfl | with_reducible exact ⟨rfl, rfl⟩ | with_reducible exact HM.out _ hw' | with_reducible exact HC.out _ hw'))
           clear hK K))
   refine wpQuiet_nil ?_
   intro w7 hw7
   have HB7 := Lib.hid (below_on HB1.out hw7)
   clear hw7
   go_wp2_with fail
   go_ret
   exact ⟨by show Ending.returned (.bool (((i : Int) != (k : Int)) && z)) = _; rw [bne_iff_ne.2 h5]; rfl, HB7.out⟩
end Go.Proofs.Ythnpekbmaapgnaa
