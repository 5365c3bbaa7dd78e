/-
  Walks: topo.Route, the document's Route and Check.
-/
import Derived.Test.YtdkcpejlojdijaaToX
import Derived.Test.YtdkcpejlojdijaaToW
import Derived.Test.YtdkcpejlojdijaaToG
import Derived.Test.YtdkcpejlojdijaaCalm
namespace Go.Proofs.Ytdkcpejlojdijaa
open Go.RowKit
attribute [local irreducible] hasI hasP dupI dupN okPt okPts secOf formedS Sl.v cntI ixF mayS

set_option maxRecDepth 100000 in
set_option maxHeartbeats 4000000 in
theorem route_is (L : Lay) (n : Int) (w : World) (hL : LayAt w L) :
    Calls Try.prog 18 #[.agg #[L.se.v, L.po.v, L.sg.v, L.rt.v], .int .i64 n] w fun e w' => e = .returned (.int .i64 (routeS L n)) ∧ Below w.heap.size w w' := by
  have HMAY : Hid (∀ W, Below w.heap.size w W → Calls Try.prog 26 #[.agg #[L.se.v, L.po.v, L.sg.v, L.rt.v]] W fun e w' => e = .returned (.bool (mayS L)) ∧ Below W.heap.size W w') := Lib.hid (fun W hW => may_lay L W (hL.below hW))
  have HFO : Hid (mayS L = true → ∀ W, Below w.heap.size w W → ∀ r ∈ L.rt.l, Calls Try.prog 29 #[.agg #[L.se.v, L.po.v, L.sg.v, L.rt.v], .agg #[.string r.nm, .int .i64 r.sg, r.pa.v, r.po.v, r.ov.v, r.fl.v]] W fun e w' => e = .returned (.bool (formedS L r)) ∧ Below W.heap.size W w') := Lib.hid (fun hmay W hW r hr => by
    have ho := mayS_rt hmay r hr
    exact formed_is L r W (hL.below hW) ((hL.rn r hr).below hW) ho.s0 ho.s1 (by have := ho.pa; have := ho.ov; omega) (by have := ho.po; have := ho.fl; omega))
  have HROW := Lib.hid hL.rt.row
  obtain ⟨n1, hn1⟩ : ∃ n, L.se.l.length = n := ⟨_, rfl⟩
  obtain ⟨n2, hn2⟩ : ∃ n, L.po.l.length = n := ⟨_, rfl⟩
  obtain ⟨n3, hn3⟩ : ∃ n, L.sg.l.length = n := ⟨_, rfl⟩
  obtain ⟨n4, hn4⟩ : ∃ n, L.rt.l.length = n := ⟨_, rfl⟩
  have hm4 : n4 ≤ 9223372036854775807 := by rw [← hn4]; exact hL.rt.lenM
  have HN4 := Lib.hid hn4
  have HM4 := Lib.hid hm4
  rw [slv hn1, slv hn2, slv hn3, slv hn4] at HMAY HFO ⊢
  clear hn1 hn2 hn3 hn4 hm4 hL
  obtain ⟨gl, hgl⟩ : ∃ g, g = w.heap.size := ⟨_, rfl⟩
  have HGL := Lib.hid hgl
  clear hgl
  obtain ⟨B, hB⟩ : ∃ B, mayS L = B := ⟨_, rfl⟩
  rw [hB] at HMAY
  have HBB := Lib.hid hB
  clear hB
  go_enter Try.func18, Try.ntmps18
  go_wp2_with fail
  refine (HMAY.out _ (below1 w _)).mono ?_
  rintro e w1 ⟨rfl, hb1⟩
  have hq := blk_keep hb1 (alloc1 w (.cells #[.slice L.se.a n1 L.se.c, .slice L.po.a n2 L.po.c, .slice L.sg.a n3 L.sg.c, .slice L.rt.a n4 L.rt.c] 39) (Below.refl _ _))
  have hbw := below_on (below1 w _) hb1
  rw [← HGL.out] at hq ⊢
  have HB1 := Lib.hid hbw
  have HQ := Lib.hid hq
  clear hb1 hbw hq
  cases B with
  | false =>
    have HF := Lib.hid (rs_no (n := n) HBB.out)
    clear HQ
    go_wp2_with fail
    go_ret
    exact ⟨by rw [HF.out]; rfl, HB1.out⟩
  | true =>
    have l3 := blk_cell HQ.out 3 _ rfl
    by_cases hneg : n < 0
    · have HF := Lib.hid (rs_none (n := n) HBB.out (.inl hneg))
      go_wp2_with fail
      go_ret
      exact ⟨by rw [HF.out]; rfl, HB1.out⟩
    by_cases hbig : (n4 : Int) ≤ n
    · have HF := Lib.hid (rs_none (n := n) HBB.out (.inr (by rw [HN4.out]; exact hbig)))
      go_wp2_with fail
      go_ret
      exact ⟨by rw [HF.out]; rfl, HB1.out⟩
    obtain ⟨k, hk⟩ : ∃ k : Nat, n = k := ⟨n.toNat, by omega⟩
    subst hk
    have hlt : k < n4 := by omega
    obtain ⟨y, hy⟩ : ∃ y, L.rt.l[k]? = some y := ⟨_, List.getElem?_eq_getElem (by rw [HN4.out]; exact hlt)⟩
    have hcall := fun W (hW : Below w1.heap.size w1 W) => HFO.out HBB.out W (below_on HB1.out hW) y (List.mem_of_getElem? hy)
    have HY := Lib.hid hy
    rcases HROW.out.below HB1.out with hnil | ⟨xb, off, hxb, hc⟩
    · rw [hnil] at hy; simp at hy
    have z0 := hc k _ hy 0 _ rfl
    have z1 := hc k _ hy 1 _ rfl
    have z2 := hc k _ hy 2 _ rfl
    have z3 := hc k _ hy 3 _ rfl
    have z4 := hc k _ hy 4 _ rfl
    have z5 := hc k _ hy 5 _ rfl
    rw [Nat.add_zero] at z0
    obtain ⟨D, hD⟩ : ∃ D, formedS L y = D := ⟨_, rfl⟩
    rw [hD] at hcall
    have HD := Lib.hid hD
    obtain ⟨m1, hm1⟩ : ∃ n, y.pa.l.length = n := ⟨_, rfl⟩
    obtain ⟨m2, hm2⟩ : ∃ n, y.po.l.length = n := ⟨_, rfl⟩
    obtain ⟨m3, hm3⟩ : ∃ n, y.ov.l.length = n := ⟨_, rfl⟩
    obtain ⟨m4, hm4⟩ : ∃ n, y.fl.l.length = n := ⟨_, rfl⟩
    rw [slv hm1, slv hm2, slv hm3, slv hm4] at hcall
    rw [slv hm1] at z2
    rw [slv hm2] at z3
    rw [slv hm3] at z4
    rw [slv hm4] at z5
    have HC : Hid (∀ W, Below w1.heap.size w1 W → Calls Try.prog 29 #[.agg #[.slice L.se.a n1 L.se.c, .slice L.po.a n2 L.po.c, .slice L.sg.a n3 L.sg.c, .slice L.rt.a n4 L.rt.c], .agg #[.string y.nm, .int .i64 y.sg, .slice y.pa.a m1 y.pa.c, .slice y.po.a m2 y.po.c, .slice y.ov.a m3 y.ov.c, .slice y.fl.a m4 y.fl.c]] W fun e w' => e = .returned (.bool D) ∧ Below w1.heap.size w1 w') := Lib.hid (fun W hW => (hcall W hW).mono (fun e w9 h => ⟨h.1, below_on hW h.2⟩))
    have HZ := Lib.hid (And.intro z0 (And.intro z1 (And.intro z2 (And.intro z3 (And.intro z4 z5)))))
    have d1 : (0 : Int) ≤ k := by omega
    have d2 : (k : Int) < n4 := by omega
    clear hc hcall hy hD hm1 hm2 hm3 hm4 z0 z1 z2 z3 z4 z5
    have HF := Lib.hid (rs_at HBB.out HY.out)
    obtain ⟨x, hx⟩ : ∃ x, L.rt.a = x := ⟨_, rfl⟩
    rw [hx] at l3 HQ HC hxb ⊢
    subst hxb
    clear hx hlt
    go_upto_region 5 with fail
    refine wp_region_calm (by kernel_rfl) ?_ ?_
    · kernel_rfl
    repeat first
     | go_big_quiet_skip
     | (go_big_quiet_want; go_big_quiet_op; go_big_quiet_on)
     | (with_reducible apply wpQuiet_step
        intro K hK
        go_simp
        first
          | (refine hK _ ?_; clear hK K)
          | (apply Exists.intro
             refine ⟨fun w' hw' => ?_, hK _ ?_⟩
             ·
               (first
                | with_reducible exact HC.out _ hw'
                | (have g0 := blk_cell (blk_keep hw' HQ.out) 0 _ rfl
                   have g1 := blk_cell (blk_keep hw' HQ.out) 1 _ rfl
                   have g2 := blk_cell (blk_keep hw' HQ.out) 2 _ rfl
                   have g3 := blk_cell (blk_keep hw' HQ.out) 3 _ rfl
                   have f0 := cell_later hw' HZ.out.1
                   have f1 := cell_later hw' HZ.out.2.1
                   have f2 := cell_later hw' HZ.out.2.2.1
                   have f3 := cell_later hw' HZ.out.2.2.2.1
                   have f4 := cell_later hw' HZ.out.2.2.2.2.1
                   have f5 := cell_later hw' HZ.out.2.2.2.2.2
                   go_simp
                   first | done | with_reducible exact rfl | with_reducible exact ⟨rfl, rfl⟩ | with_reducible exact HC.out _ hw'))
             clear hK K))
    refine wpQuiet_nil ?_
    intro w7 hw7
    have HB7 := Lib.hid (below_on HB1.out hw7)
    clear hw7 l3
    cases D with
    | true =>
      go_wp2_with fail
      go_ret
      exact ⟨by rw [HF.out, HD.out]; rfl, HB7.out⟩
    | false =>
      go_wp2_with fail
      go_ret
      exact ⟨by rw [HF.out, HD.out]; rfl, HB7.out⟩

set_option maxRecDepth 100000 in
set_option maxHeartbeats 4000000 in
theorem rroute_is (L : Lay) (n : Int) (w : World) (hL : LayAt w L) :
    Calls Try.prog 19 #[.agg #[L.se.v, L.po.v, L.sg.v, L.rt.v], .int .i64 n] w fun e w' => e = .returned (.int .i64 (routeS L n)) ∧ Below w.heap.size w w' := by
  have HMAY : Hid (∀ W, Below w.heap.size w W → Calls Try.prog 30 #[.agg #[L.se.v, L.po.v, L.sg.v, L.rt.v]] W fun e w' => e = .returned (.bool (mayS L)) ∧ Below W.heap.size W w') := Lib.hid (fun W hW => rmay_lay L W (hL.below hW))
  have HFO : Hid (mayS L = true → ∀ W, Below w.heap.size w W → ∀ r ∈ L.rt.l, Calls Try.prog 31 #[.agg #[L.se.v, L.po.v, L.sg.v, L.rt.v], .agg #[.string r.nm, .int .i64 r.sg, r.pa.v, r.po.v, r.ov.v, r.fl.v]] W fun e w' => e = .returned (.bool (formedS L r)) ∧ Below W.heap.size W w') := Lib.hid (fun hmay W hW r hr => by
    have ho := mayS_rt hmay r hr
    exact rformed_is L r W (hL.below hW) ((hL.rn r hr).below hW) ho.s0 ho.s1 (by have := ho.pa; have := ho.ov; omega) (by have := ho.po; have := ho.fl; omega))
  have HROW := Lib.hid hL.rt.row
  obtain ⟨n1, hn1⟩ : ∃ n, L.se.l.length = n := ⟨_, rfl⟩
  obtain ⟨n2, hn2⟩ : ∃ n, L.po.l.length = n := ⟨_, rfl⟩
  obtain ⟨n3, hn3⟩ : ∃ n, L.sg.l.length = n := ⟨_, rfl⟩
  obtain ⟨n4, hn4⟩ : ∃ n, L.rt.l.length = n := ⟨_, rfl⟩
  have hm4 : n4 ≤ 9223372036854775807 := by rw [← hn4]; exact hL.rt.lenM
  have HN4 := Lib.hid hn4
  have HM4 := Lib.hid hm4
  rw [slv hn1, slv hn2, slv hn3, slv hn4] at HMAY HFO ⊢
  clear hn1 hn2 hn3 hn4 hm4 hL
  obtain ⟨gl, hgl⟩ : ∃ g, g = w.heap.size := ⟨_, rfl⟩
  have HGL := Lib.hid hgl
  clear hgl
  obtain ⟨B, hB⟩ : ∃ B, mayS L = B := ⟨_, rfl⟩
  rw [hB] at HMAY
  have HBB := Lib.hid hB
  clear hB
  go_enter Try.func19, Try.ntmps19
  go_wp2_with fail
  refine (HMAY.out _ (below1 w _)).mono ?_
  rintro e w1 ⟨rfl, hb1⟩
  have hq := blk_keep hb1 (alloc1 w (.cells #[.slice L.se.a n1 L.se.c, .slice L.po.a n2 L.po.c, .slice L.sg.a n3 L.sg.c, .slice L.rt.a n4 L.rt.c] 39) (Below.refl _ _))
  have hbw := below_on (below1 w _) hb1
  rw [← HGL.out] at hq ⊢
  have HB1 := Lib.hid hbw
  have HQ := Lib.hid hq
  clear hb1 hbw hq
  cases B with
  | false =>
    have HF := Lib.hid (rs_no (n := n) HBB.out)
    clear HQ
    go_wp2_with fail
    go_ret
    exact ⟨by rw [HF.out]; rfl, HB1.out⟩
  | true =>
    have l3 := blk_cell HQ.out 3 _ rfl
    by_cases hneg : n < 0
    · have HF := Lib.hid (rs_none (n := n) HBB.out (.inl hneg))
      go_wp2_with fail
      go_ret
      exact ⟨by rw [HF.out]; rfl, HB1.out⟩
    by_cases hbig : (n4 : Int) ≤ n
    · have HF := Lib.hid (rs_none (n := n) HBB.out (.inr (by rw [HN4.out]; exact hbig)))
      go_wp2_with fail
      go_ret
      exact ⟨by rw [HF.out]; rfl, HB1.out⟩
    obtain ⟨k, hk⟩ : ∃ k : Nat, n = k := ⟨n.toNat, by omega⟩
    subst hk
    have hlt : k < n4 := by omega
    obtain ⟨y, hy⟩ : ∃ y, L.rt.l[k]? = some y := ⟨_, List.getElem?_eq_getElem (by rw [HN4.out]; exact hlt)⟩
    have hcall := fun W (hW : Below w1.heap.size w1 W) => HFO.out HBB.out W (below_on HB1.out hW) y (List.mem_of_getElem? hy)
    have HY := Lib.hid hy
    rcases HROW.out.below HB1.out with hnil | ⟨xb, off, hxb, hc⟩
    · rw [hnil] at hy; simp at hy
    have z0 := hc k _ hy 0 _ rfl
    have z1 := hc k _ hy 1 _ rfl
    have z2 := hc k _ hy 2 _ rfl
    have z3 := hc k _ hy 3 _ rfl
    have z4 := hc k _ hy 4 _ rfl
    have z5 := hc k _ hy 5 _ rfl
    rw [Nat.add_zero] at z0
    obtain ⟨D, hD⟩ : ∃ D, formedS L y = D := ⟨_, rfl⟩
    rw [hD] at hcall
    have HD := Lib.hid hD
    obtain ⟨m1, hm1⟩ : ∃ n, y.pa.l.length = n := ⟨_, rfl⟩
    obtain ⟨m2, hm2⟩ : ∃ n, y.po.l.length = n := ⟨_, rfl⟩
    obtain ⟨m3, hm3⟩ : ∃ n, y.ov.l.length = n := ⟨_, rfl⟩
    obtain ⟨m4, hm4⟩ : ∃ n, y.fl.l.length = n := ⟨_, rfl⟩
    rw [slv hm1, slv hm2, slv hm3, slv hm4] at hcall
    rw [slv hm1] at z2
    rw [slv hm2] at z3
    rw [slv hm3] at z4
    rw [slv hm4] at z5
    have HC : Hid (∀ W, Below w1.heap.size w1 W → Calls Try.prog 31 #[.agg #[.slice L.se.a n1 L.se.c, .slice L.po.a n2 L.po.c, .slice L.sg.a n3 L.sg.c, .slice L.rt.a n4 L.rt.c], .agg #[.string y.nm, .int .i64 y.sg, .slice y.pa.a m1 y.pa.c, .slice y.po.a m2 y.po.c, .slice y.ov.a m3 y.ov.c, .slice y.fl.a m4 y.fl.c]] W fun e w' => e = .returned (.bool D) ∧ Below w1.heap.size w1 w') := Lib.hid (fun W hW => (hcall W hW).mono (fun e w9 h => ⟨h.1, below_on hW h.2⟩))
    have HZ := Lib.hid (And.intro z0 (And.intro z1 (And.intro z2 (And.intro z3 (And.intro z4 z5)))))
    have d1 : (0 : Int) ≤ k := by omega
    have d2 : (k : Int) < n4 := by omega
    clear hc hcall hy hD hm1 hm2 hm3 hm4 z0 z1 z2 z3 z4 z5
    have HF := Lib.hid (rs_at HBB.out HY.out)
    obtain ⟨x, hx⟩ : ∃ x, L.rt.a = x := ⟨_, rfl⟩
    rw [hx] at l3 HQ HC hxb ⊢
    subst hxb
    clear hx hlt
    go_upto_region 5 with fail
    refine wp_region_calm (by kernel_rfl) ?_ ?_
    · kernel_rfl
    repeat first
     | go_big_quiet_skip
     | (go_big_quiet_want; go_big_quiet_op; go_big_quiet_on)
     | (with_reducible apply wpQuiet_step
        intro K hK
        go_simp
        first
          | (refine hK _ ?_; clear hK K)
          | (apply Exists.intro
             refine ⟨fun w' hw' => ?_, hK _ ?_⟩
             ·
               (first
                | with_reducible exact HC.out _ hw'
                | (have g0 := blk_cell (blk_keep hw' HQ.out) 0 _ rfl
                   have g1 := blk_cell (blk_keep hw' HQ.out) 1 _ rfl
                   have g2 := blk_cell (blk_keep hw' HQ.out) 2 _ rfl
                   have g3 := blk_cell (blk_keep hw' HQ.out) 3 _ rfl
                   have f0 := cell_later hw' HZ.out.1
                   have f1 := cell_later hw' HZ.out.2.1
                   have f2 := cell_later hw' HZ.out.2.2.1
                   have f3 := cell_later hw' HZ.out.2.2.2.1
                   have f4 := cell_later hw' HZ.out.2.2.2.2.1
                   have f5 := cell_later hw' HZ.out.2.2.2.2.2
                   go_simp
                   first | done | with_reducible exact rfl | with_reducible exact ⟨rfl, rfl⟩ | with_reducible exact HC.out _ hw'))
             clear hK K))
    refine wpQuiet_nil ?_
    intro w7 hw7
    have HB7 := Lib.hid (below_on HB1.out hw7)
    clear hw7 l3
    cases D with
    | true =>
      go_wp2_with fail
      go_ret
      exact ⟨by rw [HF.out, HD.out]; rfl, HB7.out⟩
    | false =>
      go_wp2_with fail
      go_ret
      exact ⟨by rw [HF.out, HD.out]; rfl, HB7.out⟩

theorem bad_end {L : Lay} {k : Nat} (h : L.rt.l.length = k) (hb : ixF (fun r => !formedS L r) k (L.rt.l.drop k) = badS L) : badS L = -1 := by rw [← hb, ixF_end h]
theorem bad_hit {L : Lay} {k : Nat} {y : Rt} (hy : L.rt.l[k]? = some y) (hf : formedS L y = false) (hb : ixF (fun r => !formedS L r) k (L.rt.l.drop k) = badS L) : badS L = k := by rw [← hb, ixF_drop hy, hf]; rfl
theorem bad_on {L : Lay} {k : Nat} {y : Rt} (hy : L.rt.l[k]? = some y) (hf : formedS L y = true) (hb : ixF (fun r => !formedS L r) k (L.rt.l.drop k) = badS L) : ixF (fun r => !formedS L r) (k + 1) (L.rt.l.drop (k + 1)) = badS L := by rw [← hb, ixF_drop hy, hf]; rfl
attribute [local irreducible] badS
set_option maxRecDepth 100000 in
set_option maxHeartbeats 4000000 in
theorem rcheck_is (L : Lay) (w : World) (hL : LayAt w L) :
    Calls Try.prog 17 #[.agg #[L.se.v, L.po.v, L.sg.v, L.rt.v]] w fun e w' => e = .returned (.tuple #[.int .i64 (checkS L).1, .int .i64 (checkS L).2]) ∧ Below w.heap.size w w' := by
  have HMAY : Hid (∀ W, Below w.heap.size w W → Calls Try.prog 30 #[.agg #[L.se.v, L.po.v, L.sg.v, L.rt.v]] W fun e w' => e = .returned (.bool (mayS L)) ∧ Below W.heap.size W w') := Lib.hid (fun W hW => rmay_lay L W (hL.below hW))
  have HFO : Hid (mayS L = true → ∀ W, Below w.heap.size w W → ∀ r ∈ L.rt.l, Calls Try.prog 31 #[.agg #[L.se.v, L.po.v, L.sg.v, L.rt.v], .agg #[.string r.nm, .int .i64 r.sg, r.pa.v, r.po.v, r.ov.v, r.fl.v]] W fun e w' => e = .returned (.bool (formedS L r)) ∧ Below W.heap.size W w') := Lib.hid (fun hmay W hW r hr => by
    have ho := mayS_rt hmay r hr
    exact rformed_is L r W (hL.below hW) ((hL.rn r hr).below hW) ho.s0 ho.s1 (by have := ho.pa; have := ho.ov; omega) (by have := ho.po; have := ho.fl; omega))
  have HROW := Lib.hid hL.rt.row
  obtain ⟨n1, hn1⟩ : ∃ n, L.se.l.length = n := ⟨_, rfl⟩
  obtain ⟨n2, hn2⟩ : ∃ n, L.po.l.length = n := ⟨_, rfl⟩
  obtain ⟨n3, hn3⟩ : ∃ n, L.sg.l.length = n := ⟨_, rfl⟩
  obtain ⟨n4, hn4⟩ : ∃ n, L.rt.l.length = n := ⟨_, rfl⟩
  have hm4 : n4 ≤ 9223372036854775807 := by rw [← hn4]; exact hL.rt.lenM
  have HN4 := Lib.hid hn4
  have HM4 := Lib.hid hm4
  rw [slv hn1, slv hn2, slv hn3, slv hn4] at HMAY HFO ⊢
  clear hn1 hn2 hn3 hn4 hm4 hL
  obtain ⟨gl, hgl⟩ : ∃ g, g = w.heap.size := ⟨_, rfl⟩
  have HGL := Lib.hid hgl
  clear hgl
  obtain ⟨B, hB⟩ : ∃ B, mayS L = B := ⟨_, rfl⟩
  rw [hB] at HMAY
  have HBB := Lib.hid hB
  clear hB
  go_enter Try.func17, Try.ntmps17
  go_wp2_with fail
  refine (HMAY.out _ (below1 w _)).mono ?_
  rintro e w1 ⟨rfl, hb1⟩
  have hq := blk_keep hb1 (alloc1 w (.cells #[.slice L.se.a n1 L.se.c, .slice L.po.a n2 L.po.c, .slice L.sg.a n3 L.sg.c, .slice L.rt.a n4 L.rt.c] 39) (Below.refl _ _))
  have hbw := below_on (below1 w _) hb1
  rw [← HGL.out] at hq ⊢
  have HB1 := Lib.hid hbw
  have HQ := Lib.hid hq
  clear hb1 hbw hq
  cases B with
  | false =>
    have HF := Lib.hid (cs_no HBB.out)
    clear HQ
    go_wp2_with fail
    go_ret2
    exact ⟨by rw [HF.out]; rfl, HB1.out⟩
  | true =>
    go_wp2_with fail
    go_loopg [2, 3, 4] n4 (fun g _ _ i wr => ∃ k : Nat, k + g = n4 ∧ i = .int .i64 (k : Int) ∧ ixF (fun r => !formedS L r) k (L.rt.l.drop k) = badS L ∧ wr.heap[gl]? = some (.cells #[.slice L.se.a n1 L.se.c, .slice L.po.a n2 L.po.c, .slice L.sg.a n3 L.sg.c, .slice L.rt.a n4 L.rt.c] 39) ∧ Below w.heap.size w wr)
    case atStart => exact ⟨0, by omega, rfl, by unfold badS; rfl, HQ.out, HB1.out⟩
    case round =>
      obtain ⟨k, hk, rfl, hst, hq, hbw⟩ := hrel
      clear HQ HB1
      have HST := Lib.hid hst
      have HQ := Lib.hid hq
      have HB1 := Lib.hid hbw
      have l3 := blk_cell hq 3 _ rfl
      clear hst hq hbw
      by_cases hlt : k < n4
      · have HK := Lib.hid hk
        have e0 : wrap64 ((k : Int) + 1) = (k : Int) + 1 := by have := HM4.out; unfold wrap64; omega
        obtain ⟨y, hy⟩ : ∃ y, L.rt.l[k]? = some y := ⟨_, List.getElem?_eq_getElem (by rw [HN4.out]; exact hlt)⟩
        have hcall := fun W (hW : Below wr.heap.size wr W) => HFO.out HBB.out W (below_on HB1.out hW) y (List.mem_of_getElem? hy)
        have HY := Lib.hid hy
        rcases HROW.out.below HB1.out with hnil | ⟨xb, off, hxb, hc⟩
        · rw [hnil] at hy; simp at hy
        have z0 := hc k _ hy 0 _ rfl
        have z1 := hc k _ hy 1 _ rfl
        have z2 := hc k _ hy 2 _ rfl
        have z3 := hc k _ hy 3 _ rfl
        have z4 := hc k _ hy 4 _ rfl
        have z5 := hc k _ hy 5 _ rfl
        rw [Nat.add_zero] at z0
        obtain ⟨D, hD⟩ : ∃ D, formedS L y = D := ⟨_, rfl⟩
        rw [hD] at hcall
        have HD := Lib.hid hD
        obtain ⟨m1, hm1⟩ : ∃ n, y.pa.l.length = n := ⟨_, rfl⟩
        obtain ⟨m2, hm2⟩ : ∃ n, y.po.l.length = n := ⟨_, rfl⟩
        obtain ⟨m3, hm3⟩ : ∃ n, y.ov.l.length = n := ⟨_, rfl⟩
        obtain ⟨m4, hm4⟩ : ∃ n, y.fl.l.length = n := ⟨_, rfl⟩
        rw [slv hm1, slv hm2, slv hm3, slv hm4] at hcall
        rw [slv hm1] at z2
        rw [slv hm2] at z3
        rw [slv hm3] at z4
        rw [slv hm4] at z5
        have HC : Hid (∀ W, Below wr.heap.size wr W → Calls Try.prog 31 #[.agg #[.slice L.se.a n1 L.se.c, .slice L.po.a n2 L.po.c, .slice L.sg.a n3 L.sg.c, .slice L.rt.a n4 L.rt.c], .agg #[.string y.nm, .int .i64 y.sg, .slice y.pa.a m1 y.pa.c, .slice y.po.a m2 y.po.c, .slice y.ov.a m3 y.ov.c, .slice y.fl.a m4 y.fl.c]] W fun e w' => e = .returned (.bool D) ∧ Below wr.heap.size wr w') := Lib.hid (fun W hW => (hcall W hW).mono (fun e w9 h => ⟨h.1, below_on hW h.2⟩))
        have HZ := Lib.hid (And.intro z0 (And.intro z1 (And.intro z2 (And.intro z3 (And.intro z4 z5)))))
        have d1 : (0 : Int) ≤ k := by omega
        have d2 : (k : Int) < n4 := by omega
        clear hc hcall hy hD hm1 hm2 hm3 hm4 z0 z1 z2 z3 z4 z5
        clear hk
        obtain ⟨x, hx⟩ : ∃ x, L.rt.a = x := ⟨_, rfl⟩
        have HXX := Lib.hid hx
        rw [hx] at l3 HQ HC hxb ⊢
        subst hxb
        clear hx hlt
        go_upto_region 6 with fail
        refine wp_region_calm (by kernel_rfl) ?_ ?_
        · kernel_rfl
        repeat first
         | go_big_quiet_skip
         | (go_big_quiet_want; go_big_quiet_op; go_big_quiet_on)
         | (with_reducible apply wpQuiet_step
            intro K hK
            go_simp
            first
              | (refine hK _ ?_; clear hK K)
              | (apply Exists.intro
                 refine ⟨fun w' hw' => ?_, hK _ ?_⟩
                 ·
                   (first
                    | with_reducible exact HC.out _ hw'
                    | (have g0 := blk_cell (blk_keep hw' HQ.out) 0 _ rfl
                       have g1 := blk_cell (blk_keep hw' HQ.out) 1 _ rfl
                       have g2 := blk_cell (blk_keep hw' HQ.out) 2 _ rfl
                       have g3 := blk_cell (blk_keep hw' HQ.out) 3 _ rfl
                       have f0 := cell_later hw' HZ.out.1
                       have f1 := cell_later hw' HZ.out.2.1
                       have f2 := cell_later hw' HZ.out.2.2.1
                       have f3 := cell_later hw' HZ.out.2.2.2.1
                       have f4 := cell_later hw' HZ.out.2.2.2.2.1
                       have f5 := cell_later hw' HZ.out.2.2.2.2.2
                       go_simp
                       first | done | with_reducible exact rfl | with_reducible exact ⟨rfl, rfl⟩ | with_reducible exact HC.out _ hw'))
                 clear hK K))
        refine wpQuiet_nil ?_
        intro w7 hw7
        have HB7 := Lib.hid (below_on HB1.out hw7)
        have HQ7 := Lib.hid (blk_keep hw7 HQ.out)
        clear hw7 l3
        cases D with
        | false =>
          have HF := Lib.hid (cs_bad HBB.out (bad_hit HY.out HD.out HST.out) (Int.natCast_nonneg k))
          go_wp2_with fail
          go_ret2
          exact ⟨by rw [HF.out]; rfl, HB7.out⟩
        | true =>
          have HX := Lib.hid (bad_on HY.out HD.out HST.out)
          go_wp2_with fail
          rw [← HXX.out]
          go_roundg (n4 - (k + 1))
          case rel => exact ⟨k + 1, by have := HK.out; omega, by go_num, HX.out, by rw [HXX.out]; exact HQ7.out, HB7.out⟩
          case measure => have := HK.out; omega
      · have hkm : n4 = k := by omega
        subst hkm
        have HF := Lib.hid (cs_ok HBB.out (bad_end HN4.out HST.out) (by decide))
        go_wp2_with fail
        go_ret2
        exact ⟨by rw [HF.out]; rfl, HB1.out⟩
end Go.Proofs.Ytdkcpejlojdijaa
