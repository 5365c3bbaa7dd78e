/-
 Layer 06: conflict.Of, the document's Of.
-/
import Derived.Test.YtpohoannggdbjaaMF
namespace Go.Proofs.Ytpohoannggdbjaa
open Go.RowKit
set_option maxRecDepth 100000
/-- all that conflict with route n, of the first k -/
def cofN (L : Lay) (n : Int) (k : Nat) : List Int := ((List.range k).filter (fun m : Nat => pairS L n (m : Int))).map (fun m : Nat => (m : Int))
def cofL (L : Lay) (n : Int) : List Int := cofN L n (min L.rt.l.length 64)
theorem cofN_yes {L : Lay} {n : Int} {k : Nat} (h : pairS L n (k : Int) = true) : cofN L n (k + 1) = cofN L n k ++ [(k : Int)] := by
 unfold cofN
 rw [List.range_succ, List.filter_append, List.map_append]
 simp [h]
theorem cofN_no {L : Lay} {n : Int} {k : Nat} (h : pairS L n (k : Int) = false) : cofN L n (k + 1) = cofN L n k := by
 unfold cofN
 rw [List.range_succ, List.filter_append, List.map_append]
 simp [h]
theorem cofN_len (L : Lay) (n : Int) (k : Nat) : (cofN L n k).length ≤ k := by
 unfold cofN
 rw [List.length_map]
 exact Nat.le_trans (List.length_filter_le _ _) (by simp)
theorem cofN_none {L : Lay} {n : Int} (h : ∀ m : Nat, pairS L n (m : Int) = false) : ∀ k, cofN L n k = [] := by
 intro k
 induction k with
 | zero => rfl
 | succ k ih => rw [cofN_no (h k), ih]
theorem cofN_flat {L : Lay} {n : Int} {k : Nat} (h : pairS L n (k : Int) = true) : (cofN L n (k + 1)).flatMap intC = (cofN L n k).flatMap intC ++ [.int .i64 (k : Int)] ∧ (cofN L n (k + 1)).length = (cofN L n k).length + 1 := by
 rw [cofN_yes h]
 exact ⟨by rw [List.flatMap_append]; rfl, by simp⟩
attribute [local irreducible] hasI hasP dupI dupN okPt okPts secOf formedS Sl.v cntI ixF mayS conflictS pairS checkS growS rowS rrowS tabS cfS withBit pw cofN
set_option maxHeartbeats 8000000 in
theorem of_own (L : Lay) (n : Int) (w : World) (hL : LayAt w L) :
 Calls Try.prog 16 #[.agg #[L.se.v, L.po.v, L.sg.v, L.rt.v], .int .i64 n] w fun e w' => ∃ a m c, e = .returned (.slice a m c) ∧ m = (cofL L n).length ∧ SlAt 1 intC w' ⟨a, c, cofL L n⟩ ∧ Below w.heap.size w w' ∧ NewRow 1 w.heap.size w' a m := by
 obtain ⟨B, hB⟩ : ∃ B, mayS L = B := ⟨_, rfl⟩
 have HMAY : Hid (∀ W, Below w.heap.size w W → Calls Try.prog 25 #[.agg #[L.se.v, L.po.v, L.sg.v, L.rt.v]] W fun e w' => e = .returned (.bool B) ∧ Below W.heap.size W w') := Lib.hid (fun W hW => hB ▸ may_lay L W (hL.below hW))
 have HCF : Hid (mayS L = true → ∀ x ∈ L.rt.l, ∀ y ∈ L.rt.l, ∀ W, Below w.heap.size w W → Calls Try.prog 31 #[.agg #[L.se.v, L.po.v, L.sg.v, L.rt.v], .agg #[.string x.nm, .int .i64 x.sg, x.pa.v, x.po.v, x.ov.v, x.fl.v], .agg #[.string y.nm, .int .i64 y.sg, y.pa.v, y.po.v, y.ov.v, y.fl.v]] W fun e w' => e = .returned (.bool (conflictS L x y)) ∧ Below W.heap.size W w') := Lib.hid (fun hmay x hx y hy W hW => conflict_may L x y W hmay (hL.below hW) hx hy)
 have HROW := Lib.hid hL.rt.row
 have HBB := Lib.hid hB
 clear hB
 obtain ⟨n1, hn1⟩ : ∃ n, L.se.l.length = n := ⟨_, rfl⟩
 obtain ⟨n2, hn2⟩ : ∃ n, L.po.l.length = n := ⟨_, rfl⟩
 obtain ⟨n3, hn3⟩ : ∃ n, L.sg.l.length = n := ⟨_, rfl⟩
 obtain ⟨n4, hn4⟩ : ∃ n, L.rt.l.length = n := ⟨_, rfl⟩
 have HN4 := Lib.hid hn4
 rw [slv hn1, slv hn2, slv hn3, slv hn4] at HMAY HCF ⊢
 clear hn1 hn2 hn3 hn4 hL
 obtain ⟨gl, hgl⟩ : ∃ g, g = w.heap.size := ⟨_, rfl⟩
 have HGL := Lib.hid hgl
 clear hgl
 have hB0 := below1 w (.cells #[.slice L.se.a n1 L.se.c, .slice L.po.a n2 L.po.c, .slice L.sg.a n3 L.sg.c, .slice L.rt.a n4 L.rt.c] 27)
 have hQ0 := alloc1 w (.cells #[.slice L.se.a n1 L.se.c, .slice L.po.a n2 L.po.c, .slice L.sg.a n3 L.sg.c, .slice L.rt.a n4 L.rt.c] 27) (Below.refl _ _)
 rw [← HGL.out] at hQ0
 have HB0 := Lib.hid hB0
 have HQ0 := Lib.hid hQ0
 have l3 := blk_cell hQ0 3 _ rfl
 clear hB0 hQ0
 by_cases hn0 : n < 0
 ·clear HMAY HCF HROW l3
  go_enter Try.func16, Try.ntmps16
  have HZ : Hid (cofL L n = []) := Lib.hid (cofN_none (fun m => ps_no (fun h => absurd h.1 (by omega))) _)
  go_wp2_with fail
  go_ret
  exact ⟨none, 0, 0, rfl, by rw [HZ.out]; rfl, by rw [HZ.out]; exact sl_none, HB0.out, .inl rfl⟩

 obtain ⟨j, rfl⟩ : ∃ j : Nat, n = j := ⟨n.toNat, by omega⟩
 have d1 : (0 : Int) ≤ j := by omega
 by_cases hn1 : n4 ≤ j
 ·have d2 : ¬ (j : Int) < n4 := by omega
  clear HMAY HCF HROW
  go_enter Try.func16, Try.ntmps16
  go_upto_region 1 with fail
  rw [← HGL.out]
  have HZ : Hid (cofL L (j : Int) = []) := Lib.hid (cofN_none (fun m => ps_no (fun h => absurd h.2.2.1 (by have := HN4.out; omega))) _)
  go_wp2_with fail
  go_ret
  exact ⟨none, 0, 0, rfl, by rw [HZ.out]; rfl, by rw [HZ.out]; exact sl_none, HB0.out, .inl rfl⟩

 have hlj : j < n4 := by omega
 have d2 : (j : Int) < n4 := by omega
 cases B with
 | false =>
   clear HCF HROW
   go_enter Try.func16, Try.ntmps16
   go_upto_region 1 with fail
   rw [← HGL.out]
   obtain ⟨w0, hw0⟩ : ∃ W, W = w.alloc (.cells #[.slice L.se.a n1 L.se.c, .slice L.po.a n2 L.po.c, .slice L.sg.a n3 L.sg.c, .slice L.rt.a n4 L.rt.c] 27) := ⟨_, rfl⟩
   rw [← hw0] at HB0 HQ0 l3 ⊢
   have q0 := blk_cell HQ0.out 0 _ rfl
   have q1 := blk_cell HQ0.out 1 _ rfl
   have q2 := blk_cell HQ0.out 2 _ rfl
   clear hw0
   go_wp2_with fail
   refine (HMAY.out _ HB0.out).mono ?_
   rintro e w1 ⟨rfl, hb1⟩
   have HB1 := Lib.hid (below_on HB0.out hb1)
   clear hb1
   have HZ : Hid (cofL L (j : Int) = []) := Lib.hid (cofN_none (fun m => ps_may HBB.out) _)
   go_wp2_with fail
   go_ret
   exact ⟨none, 0, 0, rfl, by rw [HZ.out]; rfl, by rw [HZ.out]; exact sl_none, HB1.out, .inl rfl⟩

 | true =>
   go_enter Try.func16, Try.ntmps16
   go_upto_region 1 with fail
   rw [← HGL.out]
   obtain ⟨w0, hw0⟩ : ∃ W, W = w.alloc (.cells #[.slice L.se.a n1 L.se.c, .slice L.po.a n2 L.po.c, .slice L.sg.a n3 L.sg.c, .slice L.rt.a n4 L.rt.c] 27) := ⟨_, rfl⟩
   rw [← hw0] at HB0 HQ0 l3 ⊢
   have q0 := blk_cell HQ0.out 0 _ rfl
   have q1 := blk_cell HQ0.out 1 _ rfl
   have q2 := blk_cell HQ0.out 2 _ rfl
   clear hw0
   go_wp2_with fail
   refine (HMAY.out _ HB0.out).mono ?_
   rintro e w1 ⟨rfl, hb1⟩
   have HQ1 := Lib.hid (blk_keep hb1 HQ0.out)
   have HB1 := Lib.hid (below_on HB0.out hb1)
   clear hb1 l3 q0 q1 q2 HB0 HQ0
   have l3 := blk_cell HQ1.out 3 _ rfl
   rcases HROW.out with hnil | ⟨xb, off, hxb, hc0⟩
   ·have := HN4.out; rw [hnil] at this; simp at this; omega
   have HCE := Lib.hid hc0
   have HM := HBB
   have HS : Hid (n4 ≤ 64) := Lib.hid (by have := mayS_small HM.out; have := HN4.out; omega)
   have HJ := Lib.hid hlj
   obtain ⟨x, hyx⟩ : ∃ y, L.rt.l[j]? = some y := ⟨_, List.getElem?_eq_getElem (by rw [HN4.out]; exact hlj)⟩
   obtain ⟨p1, hp1⟩ : ∃ n, x.pa.l.length = n := ⟨_, rfl⟩
   obtain ⟨p2, hp2⟩ : ∃ n, x.po.l.length = n := ⟨_, rfl⟩
   obtain ⟨p3, hp3⟩ : ∃ n, x.ov.l.length = n := ⟨_, rfl⟩
   obtain ⟨p4, hp4⟩ : ∃ n, x.fl.l.length = n := ⟨_, rfl⟩
   have HZX : Hid ((w.cell? ⟨xb, off + j * 6, none⟩ = some (.string x.nm)) ∧ (w.cell? ⟨xb, off + j * 6 + 1, none⟩ = some (.int .i64 x.sg)) ∧ (w.cell? ⟨xb, off + j * 6 + 2, none⟩ = some (.slice x.pa.a p1 x.pa.c)) ∧ (w.cell? ⟨xb, off + j * 6 + 3, none⟩ = some (.slice x.po.a p2 x.po.c)) ∧ (w.cell? ⟨xb, off + j * 6 + 4, none⟩ = some (.slice x.ov.a p3 x.ov.c)) ∧ (w.cell? ⟨xb, off + j * 6 + 5, none⟩ = some (.slice x.fl.a p4 x.fl.c))) := by
    rw [← slv hp1, ← slv hp2, ← slv hp3, ← slv hp4]
    exact Lib.hid ⟨hc0 j _ hyx 0 _ rfl, hc0 j _ hyx 1 _ rfl, hc0 j _ hyx 2 _ rfl, hc0 j _ hyx 3 _ rfl, hc0 j _ hyx 4 _ rfl, hc0 j _ hyx 5 _ rfl⟩
   have HYX := Lib.hid hyx
   rw [hxb] at HQ1 HCF l3 ⊢
   have HCX : Hid (∀ y ∈ L.rt.l, ∀ W, Below w.heap.size w W → Calls Try.prog 31 #[.agg #[.slice L.se.a n1 L.se.c, .slice L.po.a n2 L.po.c, .slice L.sg.a n3 L.sg.c, .slice (some ⟨xb, off, none⟩) n4 L.rt.c], .agg #[.string x.nm, .int .i64 x.sg, .slice x.pa.a p1 x.pa.c, .slice x.po.a p2 x.po.c, .slice x.ov.a p3 x.ov.c, .slice x.fl.a p4 x.fl.c], .agg #[.string y.nm, .int .i64 y.sg, y.pa.v, y.po.v, y.ov.v, y.fl.v]] W fun e w' => e = .returned (.bool (conflictS L x y)) ∧ Below W.heap.size W w') := Lib.hid (fun y hy W hW => by
    have := HCF.out HM.out x (List.mem_of_getElem? HYX.out) y hy W hW
    rw [slv hp1, slv hp2, slv hp3, slv hp4] at this
    exact this)
   clear hyx hc0 HCF hp1 hp2 hp3 hp4 HMAY hlj hxb HROW hn0 hn1
   go_upto_region 5 with fail
   clear l3
   go_loopg [5, 25] n4 (fun g v i wr => ∃ k : Nat, k + g = n4 ∧ i = .int .i64 (k : Int) ∧ wr.ownsRow (gl + 1) 3 1 v (cofN L (j : Int) k).length ((cofN L (j : Int) k).flatMap intC) ∧ wr.heap[gl]? = some (.cells #[.slice L.se.a n1 L.se.c, .slice L.po.a n2 L.po.c, .slice L.sg.a n3 L.sg.c, .slice (some ⟨xb, off, none⟩) n4 L.rt.c] 27) ∧ Below w.heap.size w wr)
   case atStart => exact ⟨0, by omega, rfl, by unfold cofN; exact World.ownsRow_nil _ _ _ _, HQ1.out, HB1.out⟩
   case round =>
    obtain ⟨k, hk, rfl, ht, hq, hbw⟩ := hrel
    clear HQ1 HB1
    have HO := Lib.hid ht
    have HQ := Lib.hid hq
    have HB1 := Lib.hid hbw
    have HK := Lib.hid hk
    clear ht hq hbw hk
    have l3 := blk_cell HQ.out 3 _ rfl
    by_cases hlt : k < n4
    ·have d3 : (0 : Int) ≤ k := by omega
     have d4 : (k : Int) < n4 := by omega
     have e1 := wsucc hlt HS.out
     have HLT := Lib.hid hlt
     have hc := fun i c hi j v hv => cell_later HB1.out (HCE.out i c hi j v hv)
     obtain ⟨y, hyy⟩ : ∃ y, L.rt.l[k]? = some y := ⟨_, List.getElem?_eq_getElem (by rw [HN4.out]; exact hlt)⟩
     have y0 := hc k _ hyy 0 _ rfl
     have y1 := hc k _ hyy 1 _ rfl
     have y2 := hc k _ hyy 2 _ rfl
     have y3 := hc k _ hyy 3 _ rfl
     have y4 := hc k _ hyy 4 _ rfl
     have y5 := hc k _ hyy 5 _ rfl
     rw [Nat.add_zero] at y0
     obtain ⟨q1, hq1⟩ : ∃ n, y.pa.l.length = n := ⟨_, rfl⟩
     obtain ⟨q2, hq2⟩ : ∃ n, y.po.l.length = n := ⟨_, rfl⟩
     obtain ⟨q3, hq3⟩ : ∃ n, y.ov.l.length = n := ⟨_, rfl⟩
     obtain ⟨q4, hq4⟩ : ∃ n, y.fl.l.length = n := ⟨_, rfl⟩
     rw [slv hq1] at y2
     rw [slv hq2] at y3
     rw [slv hq3] at y4
     rw [slv hq4] at y5
     have HZB := Lib.hid (And.intro y0 (And.intro y1 (And.intro y2 (And.intro y3 (And.intro y4 y5)))))
     clear y0 y1 y2 y3 y4 y5
     obtain ⟨y0, y1, y2, y3, y4, y5⟩ := HZB.out
     have HYY := Lib.hid hyy
     have hcall := fun W (hW : Below wr.heap.size wr W) => HCX.out y (List.mem_of_getElem? hyy) W (below_on HB1.out hW)
     obtain ⟨D, hD⟩ : ∃ D, conflictS L x y = D := ⟨_, rfl⟩
     have HD := Lib.hid hD
     rw [hD, slv hq1, slv hq2, slv hq3, slv hq4] at hcall
     have HC0 := Lib.hid hcall
     clear hc hlt hyy hcall hD hq1 hq2 hq3 hq4 l3
     have l3 := blk_cell HQ.out 3 _ rfl
     go_upto_region 7 with fail
     clear y0 y1 y2 y3 y4 y5 l3
     have hbx := below1 wr (.cells #[.string y.nm, .int .i64 y.sg, .slice y.pa.a q1 y.pa.c, .slice y.po.a q2 y.po.c, .slice y.ov.a q3 y.ov.c, .slice y.fl.a q4 y.fl.c] 58)
     have hqx := alloc1 wr (.cells #[.string y.nm, .int .i64 y.sg, .slice y.pa.a q1 y.pa.c, .slice y.po.a q2 y.po.c, .slice y.ov.a q3 y.ov.c, .slice y.fl.a q4 y.fl.c] 58) (Below.refl _ _)
     obtain ⟨w3, hw3⟩ : ∃ W, W = wr.alloc (.cells #[.string y.nm, .int .i64 y.sg, .slice y.pa.a q1 y.pa.c, .slice y.po.a q2 y.po.c, .slice y.ov.a q3 y.ov.c, .slice y.fl.a q4 y.fl.c] 58) := ⟨_, rfl⟩
     rw [← hw3] at hbx hqx ⊢
     obtain ⟨gx, hgx⟩ : ∃ g, g = wr.heap.size := ⟨_, rfl⟩
     rw [← hgx] at hqx ⊢
     have HX3 := Lib.hid hqx
     have HQ3 := Lib.hid (blk_keep hbx HQ.out)
     have HO3 := Lib.hid (own_below hbx HO.out)
     have HB3 := Lib.hid (below_on HB1.out hbx)
     have HZ3 := Lib.hid (And.intro (cell_later HB3.out HZX.out.1) (And.intro (cell_later HB3.out HZX.out.2.1) (And.intro (cell_later HB3.out HZX.out.2.2.1) (And.intro (cell_later HB3.out HZX.out.2.2.2.1) (And.intro (cell_later HB3.out HZX.out.2.2.2.2.1) (cell_later HB3.out HZX.out.2.2.2.2.2))))))
     have HC : Hid (∀ W, Below w3.heap.size w3 W → Calls Try.prog 31 #[.agg #[.slice L.se.a n1 L.se.c, .slice L.po.a n2 L.po.c, .slice L.sg.a n3 L.sg.c, .slice (some ⟨xb, off, none⟩) n4 L.rt.c], .agg #[.string x.nm, .int .i64 x.sg, .slice x.pa.a p1 x.pa.c, .slice x.po.a p2 x.po.c, .slice x.ov.a p3 x.ov.c, .slice x.fl.a p4 x.fl.c], .agg #[.string y.nm, .int .i64 y.sg, .slice y.pa.a q1 y.pa.c, .slice y.po.a q2 y.po.c, .slice y.ov.a q3 y.ov.c, .slice y.fl.a q4 y.fl.c]] W fun e w' => e = .returned (.bool D) ∧ Below w3.heap.size w3 w') := Lib.hid (fun W hW => (HC0.out W (below_on hbx hW)).mono (fun e w9 h => ⟨h.1, below_on hW h.2⟩))
     clear hbx hqx hw3 hgx HQ HO HB1 HZB HC0
     by_cases hkj : k = j
     ·have HPS : Hid (pairS L (j : Int) (k : Int) = false) := Lib.hid (ps_no (fun h => h.2.2.2.2 (by rw [hkj])))
      have hbn : ((k : Int) != (j : Int)) = false := by rw [hkj]; simp
      have HKJ := Lib.hid hkj
      clear hkj
      go_upto_region 7 with fail
      refine wp_region_calm (by kernel_rfl) ?_ ?_
      ·kernel_rfl
      repeat first
       | go_big_quiet_skip
       | (go_big_quiet_want; go_big_quiet_op; go_big_quiet_on)
       | (with_reducible apply wpQuiet_step
          intro K hK
          go_simp
          first
           | (refine hK _ ?_; clear hK K)
           | (apply Exists.intro
              refine ⟨fun w' hw' => ?_, hK _ ?_⟩
              ·
               (first
                | (skip
                   go_simp
                   first | done | with_reducible exact rfl | with_reducible exact ⟨rfl, rfl⟩))
              clear hK K))
      refine wpQuiet_nil ?_
      intro w7 hw7
      have HB7 := Lib.hid (below_on HB3.out hw7)
      have HQ7 := Lib.hid (blk_keep hw7 HQ3.out)
      have HO7 := Lib.hid (own_below hw7 HO3.out)
      clear hw7
      clear HC HB3 HQ3 HO3 HZ3 HX3
      go_wp2_with fail
      go_roundg (n4 - (k + 1))
      case rel => exact ⟨k + 1, by have := HK.out; omega, by go_num, by rw [cofN_no HPS.out]; exact HO7.out, HQ7.out, HB7.out⟩
      case measure => have := HK.out; omega
     ·have hbn : ((k : Int) != (j : Int)) = true := by rw [bne_iff_ne]; omega
      have HPS : Hid (pairS L (j : Int) (k : Int) = D) := Lib.hid ((ps_at HM.out HYX.out HYY.out (fun e => hkj e.symm)).trans HD.out)
      have HKJ := Lib.hid hkj
      clear hkj
      go_upto_region 7 with fail
      refine wp_region_calm (by kernel_rfl) ?_ ?_
      ·kernel_rfl
      repeat first
       | go_big_quiet_skip
       | (go_big_quiet_want; go_big_quiet_op; go_big_quiet_on)
       | (with_reducible apply wpQuiet_step
          intro K hK
          go_simp
          first
           | (refine hK _ ?_; clear hK K)
           | (apply Exists.intro
              refine ⟨fun w' hw' => ?_, hK _ ?_⟩
              ·
               (first
                | with_reducible exact HC.out _ hw'
                | (have g0 := blk_cell (blk_keep hw' HQ3.out) 0 _ rfl
                   have g1 := blk_cell (blk_keep hw' HQ3.out) 1 _ rfl
                   have g2 := blk_cell (blk_keep hw' HQ3.out) 2 _ rfl
                   have g3 := blk_cell (blk_keep hw' HQ3.out) 3 _ rfl
                   go_simp
                   first | done | with_reducible exact rfl | with_reducible exact ⟨rfl, rfl⟩ | with_reducible exact HC.out _ hw')
                | (have h0 := blk_cell (blk_keep hw' HX3.out) 0 _ rfl
                   have h1 := blk_cell (blk_keep hw' HX3.out) 1 _ rfl
                   have h2 := blk_cell (blk_keep hw' HX3.out) 2 _ rfl
                   have h3 := blk_cell (blk_keep hw' HX3.out) 3 _ rfl
                   have h4 := blk_cell (blk_keep hw' HX3.out) 4 _ rfl
                   have h5 := blk_cell (blk_keep hw' HX3.out) 5 _ rfl
                   go_simp
                   first | done | with_reducible exact rfl | with_reducible exact ⟨rfl, rfl⟩ | with_reducible exact HC.out _ hw')
                | (have f0 := cell_later hw' HZ3.out.1
                   have f1 := cell_later hw' HZ3.out.2.1
                   have f2 := cell_later hw' HZ3.out.2.2.1
                   have f3 := cell_later hw' HZ3.out.2.2.2.1
                   have f4 := cell_later hw' HZ3.out.2.2.2.2.1
                   have f5 := cell_later hw' HZ3.out.2.2.2.2.2
                   go_simp
                   first | done | with_reducible exact rfl | with_reducible exact ⟨rfl, rfl⟩ | with_reducible exact HC.out _ hw'))
              clear hK K))
      refine wpQuiet_nil ?_
      intro w7 hw7
      have HB7 := Lib.hid (below_on HB3.out hw7)
      have HQ7 := Lib.hid (blk_keep hw7 HQ3.out)
      have HO7 := Lib.hid (own_below hw7 HO3.out)
      clear hw7
      clear HC HB3 HQ3 HO3 HZ3 HX3
      cases D with
      | false =>
        go_wp2_with fail
        go_roundg (n4 - (k + 1))
        case rel => exact ⟨k + 1, by have := HK.out; omega, by go_num, by rw [cofN_no HPS.out]; exact HO7.out, HQ7.out, HB7.out⟩
        case measure => have := HK.out; omega
      | true =>
        obtain ⟨XS, hXS⟩ : ∃ X, (cofN L (j : Int) k).flatMap intC = X := ⟨_, rfl⟩
        obtain ⟨q, hq9⟩ : ∃ q, (cofN L (j : Int) k).length = q := ⟨_, rfl⟩
        have hle := cofN_len L (j : Int) k
        have HTT := Lib.hid (cofN_flat HPS.out)
        rw [hXS, hq9] at HTT
        rw [hXS, hq9] at HO7
        rw [hq9] at hle
        obtain ⟨i0, hi, hz0, hz1, hz2⟩ := info_parts info_int
        have HOW := Lib.hid (own_below (below1 w7 (.cells #[.int .i64 (k : Int)] 3)) HO7.out)
        have HBW := Lib.hid (below_on HB7.out (below1 w7 (.cells #[.int .i64 (k : Int)] 3)))
        have HQW := Lib.hid (blk_keep (below1 w7 (.cells #[.int .i64 (k : Int)] 3)) HQ7.out)
        have hsz := blk_lt HQW.out
        have hq1000 : q < 1000 := by have := HS.out; have := HLT.out; omega
        clear hXS hq9 hle
        go_wp2_with (at_builtin; refine wpList_append_src rfl _ _ 53 rfl (gl + 1) 3 i0 (.int .i64 0) 1 8 Try.underlying53 hi hz0 hz1 hz2 rfl (by decide) _ q XS rfl HOW.out (some ⟨w7.heap.size, 0, none⟩) 1 1 [.int .i64 (k : Int)] rfl rfl (src_one rfl (alloc1 w7 _ (Below.refl _ _))) (by unfold maxLen; omega) (by omega) hsz ?_; intro v4 W4 hown4 hg4)
        have hB4 : Below w.heap.size w W4 := HBW.out.grown hg4 HBW.out.size (fun k hk => by have := (HOW.out.lt _ hk).1; have := HGL.out; omega)
        have hQ4 := grown_keep hg4 HQW.out (fun hk => by have := (HOW.out.lt _ hk).1; omega)
        rw [← HTT.out.1, ← HTT.out.2] at hown4
        have HO4 := Lib.hid hown4
        have HB4 := Lib.hid hB4
        have HQ4 := Lib.hid hQ4
        clear hown4 hB4 hQ4 hg4 HOW HBW HQW hsz hq1000
        go_wp2_with fail
        go_roundg (n4 - (k + 1))
        case rel => exact ⟨k + 1, by have := HK.out; omega, by go_num, HO4.out, HQ4.out, HB4.out⟩
        case measure => have := HK.out; omega
    ·have hnk : n4 = k := by have := HK.out; omega
     subst hnk
     go_wp2_with fail
     go_ret
     obtain ⟨sa, sc, hv, hs, hnw⟩ := own_sl2 (l := cofN L (j : Int) n4) int_len rfl HO.out
     have HT : Hid (cofL L (j : Int) = cofN L (j : Int) n4) := Lib.hid (by unfold cofL; rw [HN4.out, Nat.min_eq_left HS.out])
     subst hv
     exact ⟨sa, _, sc, rfl, by rw [HT.out], by rw [HT.out]; exact hs, HB1.out, hnw.mono (by have := HGL.out; omega)⟩
theorem of_is (L : Lay) (n : Int) (w : World) (hL : LayAt w L) :
 Calls Try.prog 16 #[.agg #[L.se.v, L.po.v, L.sg.v, L.rt.v], .int .i64 n] w fun e w' => ∃ a m c, e = .returned (.slice a m c) ∧ m = (cofL L n).length ∧ SlAt 1 intC w' ⟨a, c, cofL L n⟩ ∧ Below w.heap.size w w' :=
 (of_own L n w hL).mono (fun _ _ ⟨a, m, c, h1, h2, h3, h4, _⟩ => ⟨a, m, c, h1, h2, h3, h4⟩)
end Go.Proofs.Ytpohoannggdbjaa
