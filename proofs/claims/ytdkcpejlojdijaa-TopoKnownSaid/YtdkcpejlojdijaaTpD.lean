/-
  The statements TopoCheck and TopoRoute: walks.
-/
import Derived.Test.YtdkcpejlojdijaaTpC
namespace Go.Proofs.Ytdkcpejlojdijaa
open Go.RowKit
attribute [local irreducible] Sl.v checkS routeS weightS
set_option maxRecDepth 100000 in
set_option maxHeartbeats 4000000 in
theorem topoCheck_is (L : Lay) (w : World) (hL : LayAt w L) : Calls Try.prog 4 #[.agg #[L.se.v, L.po.v, L.sg.v, L.rt.v]] w fun e w' => e = .returned (.bool true) ∧ Below w.heap.size w w' := by
  obtain ⟨n1, hn1⟩ : ∃ n, L.se.l.length = n := ⟨_, rfl⟩
  obtain ⟨n2, hn2⟩ : ∃ n, L.po.l.length = n := ⟨_, rfl⟩
  obtain ⟨n3, hn3⟩ : ∃ n, L.sg.l.length = n := ⟨_, rfl⟩
  obtain ⟨n4, hn4⟩ : ∃ n, L.rt.l.length = n := ⟨_, rfl⟩
  have b0 := below1 w (.cells #[.slice L.se.a n1 L.se.c, .slice L.po.a n2 L.po.c, .slice L.sg.a n3 L.sg.c, .slice L.rt.a n4 L.rt.c] 39)
  have hq := alloc1 w (.cells #[.slice L.se.a n1 L.se.c, .slice L.po.a n2 L.po.c, .slice L.sg.a n3 L.sg.c, .slice L.rt.a n4 L.rt.c] 39) (Below.refl _ _)
  obtain ⟨W, hW⟩ : ∃ W, W = w.alloc (.cells #[.slice L.se.a n1 L.se.c, .slice L.po.a n2 L.po.c, .slice L.sg.a n3 L.sg.c, .slice L.rt.a n4 L.rt.c] 39) := ⟨_, rfl⟩
  rw [← hW] at b0 hq
  have hLW := hL.below b0
  obtain ⟨z, hz⟩ : ∃ z, weightS 1500 L = z := ⟨_, rfl⟩
  have K1 : Hid (∀ w', Below W.heap.size W w' → Calls Try.prog 15 #[.agg #[L.se.v, L.po.v, L.sg.v, L.rt.v], .int .i64 1500] w' fun e w'' => e = .returned (.int .i64 z) ∧ Below W.heap.size W w'') := Lib.hid (fun w' hw' => hz ▸ (weight_is 1500 L w' (hLW.below hw')).mono (fun _ _ h => ⟨h.1, below_on hw' h.2⟩))
  have K4 : Hid (∀ w', Below W.heap.size W w' → Calls Try.prog 8 #[] w' fun e w'' => e = .returned (.bool true) ∧ Below W.heap.size W w'') := Lib.hid (fun w' hw' => (works_is w').mono (fun _ _ h => ⟨h.1, below_on hw' h.2⟩))
  obtain ⟨⟨c, d⟩, hcd⟩ : ∃ p, checkS L = p := ⟨_, rfl⟩
  have K2 : Hid (∀ w', Below W.heap.size W w' → Calls Try.prog 16 #[.agg #[L.se.v, L.po.v, L.sg.v, L.rt.v]] w' fun e w'' => e = .returned (.tuple #[.int .i64 c, .int .i64 d]) ∧ Below W.heap.size W w'') := Lib.hid (fun w' hw' => by
    have h := check_is L w' (hLW.below hw')
    rw [hcd] at h
    exact h.mono (fun _ _ h => ⟨h.1, below_on hw' h.2⟩))
  have K3 : Hid (∀ w', Below W.heap.size W w' → Calls Try.prog 17 #[.agg #[L.se.v, L.po.v, L.sg.v, L.rt.v]] w' fun e w'' => e = .returned (.tuple #[.int .i64 c, .int .i64 d]) ∧ Below W.heap.size W w'') := Lib.hid (fun w' hw' => by
    have h := rcheck_is L w' (hLW.below hw')
    rw [hcd] at h
    exact h.mono (fun _ _ h => ⟨h.1, below_on hw' h.2⟩))
  clear hcd
  rw [slv hn1, slv hn2, slv hn3, slv hn4] at K1 K2 K3
  rw [slv hn1, slv hn2, slv hn3, slv hn4]
  have HW := Lib.hid hW
  have HB0 := Lib.hid b0
  have HQ := Lib.hid hq
  clear hn1 hn2 hn3 hn4 hL hLW hW b0 hq hz
  obtain ⟨gl, hgl⟩ : ∃ g, g = w.heap.size := ⟨_, rfl⟩
  have HGL := Lib.hid hgl
  rw [← hgl] at HQ
  clear hgl
  go_enter Try.func4, Try.ntmps4
  go_wp2_with fail
  rw [← HW.out, ← HGL.out]
  refine (K1.out _ (Below.refl _ _)).mono ?_
  rintro e w1 ⟨rfl, hb⟩
  have HB1 := Lib.hid hb
  clear hb
  by_cases hz : 1500 < z
  · go_wp2_with fail
    refine (K4.out _ HB1.out).mono ?_
    rintro e w2 ⟨rfl, hb⟩
    have HB2 := Lib.hid hb
    clear hb
    go_wp2_with fail
    go_ret
    exact ⟨rfl, below_on HB0.out HB2.out⟩
  obtain ⟨l0, l1, l2, l3⟩ : w1.cell? ⟨gl, 0, none⟩ = some (.slice L.se.a n1 L.se.c) ∧ w1.cell? ⟨gl, 1, none⟩ = some (.slice L.po.a n2 L.po.c) ∧ w1.cell? ⟨gl, 2, none⟩ = some (.slice L.sg.a n3 L.sg.c) ∧ w1.cell? ⟨gl, 3, none⟩ = some (.slice L.rt.a n4 L.rt.c) := by
    have q := blk_keep HB1.out HQ.out
    exact ⟨blk_cell q 0 _ rfl, blk_cell q 1 _ rfl, blk_cell q 2 _ rfl, blk_cell q 3 _ rfl⟩
  go_wp2_with fail
  clear l0 l1 l2 l3
  refine (K2.out _ HB1.out).mono ?_
  rintro e w2 ⟨rfl, hb⟩
  have HB2 := Lib.hid hb
  clear hb
  obtain ⟨l0, l1, l2, l3⟩ : w2.cell? ⟨gl, 0, none⟩ = some (.slice L.se.a n1 L.se.c) ∧ w2.cell? ⟨gl, 1, none⟩ = some (.slice L.po.a n2 L.po.c) ∧ w2.cell? ⟨gl, 2, none⟩ = some (.slice L.sg.a n3 L.sg.c) ∧ w2.cell? ⟨gl, 3, none⟩ = some (.slice L.rt.a n4 L.rt.c) := by
    have q := blk_keep HB2.out HQ.out
    exact ⟨blk_cell q 0 _ rfl, blk_cell q 1 _ rfl, blk_cell q 2 _ rfl, blk_cell q 3 _ rfl⟩
  go_wp2_with fail
  clear l0 l1 l2 l3
  refine (K3.out _ HB2.out).mono ?_
  rintro e w3 ⟨rfl, hb⟩
  have HB3 := Lib.hid hb
  clear hb
  go_wp2_with fail
  refine (K4.out _ HB3.out).mono ?_
  rintro e w4 ⟨rfl, hb⟩
  have HB4 := Lib.hid hb
  clear hb
  go_wp2_with fail
  go_ret
  exact ⟨rfl, below_on HB0.out HB4.out⟩

set_option maxRecDepth 100000 in
set_option maxHeartbeats 4000000 in
theorem topoRoute_is (L : Lay) (n : Int) (w : World) (hL : LayAt w L) : Calls Try.prog 5 #[.agg #[L.se.v, L.po.v, L.sg.v, L.rt.v], .int .i64 n] w fun e w' => e = .returned (.bool true) ∧ Below w.heap.size w w' := by
  obtain ⟨n1, hn1⟩ : ∃ n, L.se.l.length = n := ⟨_, rfl⟩
  obtain ⟨n2, hn2⟩ : ∃ n, L.po.l.length = n := ⟨_, rfl⟩
  obtain ⟨n3, hn3⟩ : ∃ n, L.sg.l.length = n := ⟨_, rfl⟩
  obtain ⟨n4, hn4⟩ : ∃ n, L.rt.l.length = n := ⟨_, rfl⟩
  have b0 := below1 w (.cells #[.slice L.se.a n1 L.se.c, .slice L.po.a n2 L.po.c, .slice L.sg.a n3 L.sg.c, .slice L.rt.a n4 L.rt.c] 39)
  have hq := alloc1 w (.cells #[.slice L.se.a n1 L.se.c, .slice L.po.a n2 L.po.c, .slice L.sg.a n3 L.sg.c, .slice L.rt.a n4 L.rt.c] 39) (Below.refl _ _)
  obtain ⟨W, hW⟩ : ∃ W, W = w.alloc (.cells #[.slice L.se.a n1 L.se.c, .slice L.po.a n2 L.po.c, .slice L.sg.a n3 L.sg.c, .slice L.rt.a n4 L.rt.c] 39) := ⟨_, rfl⟩
  rw [← hW] at b0 hq
  have hLW := hL.below b0
  obtain ⟨z, hz⟩ : ∃ z, weightS 1500 L = z := ⟨_, rfl⟩
  have K1 : Hid (∀ w', Below W.heap.size W w' → Calls Try.prog 15 #[.agg #[L.se.v, L.po.v, L.sg.v, L.rt.v], .int .i64 1500] w' fun e w'' => e = .returned (.int .i64 z) ∧ Below W.heap.size W w'') := Lib.hid (fun w' hw' => hz ▸ (weight_is 1500 L w' (hLW.below hw')).mono (fun _ _ h => ⟨h.1, below_on hw' h.2⟩))
  have K4 : Hid (∀ w', Below W.heap.size W w' → Calls Try.prog 8 #[] w' fun e w'' => e = .returned (.bool true) ∧ Below W.heap.size W w'') := Lib.hid (fun w' hw' => (works_is w').mono (fun _ _ h => ⟨h.1, below_on hw' h.2⟩))
  obtain ⟨c, hcd⟩ : ∃ p, routeS L n = p := ⟨_, rfl⟩
  have K2 : Hid (∀ w', Below W.heap.size W w' → Calls Try.prog 18 #[.agg #[L.se.v, L.po.v, L.sg.v, L.rt.v], .int .i64 n] w' fun e w'' => e = .returned (.int .i64 c) ∧ Below W.heap.size W w'') := Lib.hid (fun w' hw' => by
    have h := route_is L n w' (hLW.below hw')
    rw [hcd] at h
    exact h.mono (fun _ _ h => ⟨h.1, below_on hw' h.2⟩))
  have K3 : Hid (∀ w', Below W.heap.size W w' → Calls Try.prog 19 #[.agg #[L.se.v, L.po.v, L.sg.v, L.rt.v], .int .i64 n] w' fun e w'' => e = .returned (.int .i64 c) ∧ Below W.heap.size W w'') := Lib.hid (fun w' hw' => by
    have h := rroute_is L n w' (hLW.below hw')
    rw [hcd] at h
    exact h.mono (fun _ _ h => ⟨h.1, below_on hw' h.2⟩))
  clear hcd
  rw [slv hn1, slv hn2, slv hn3, slv hn4] at K1 K2 K3
  rw [slv hn1, slv hn2, slv hn3, slv hn4]
  have HW := Lib.hid hW
  have HB0 := Lib.hid b0
  have HQ := Lib.hid hq
  clear hn1 hn2 hn3 hn4 hL hLW hW b0 hq hz
  obtain ⟨gl, hgl⟩ : ∃ g, g = w.heap.size := ⟨_, rfl⟩
  have HGL := Lib.hid hgl
  rw [← hgl] at HQ
  clear hgl
  by_cases hz : 1500 < z
  · go_enter Try.func5, Try.ntmps5
    go_upto_region 1 with fail
    rw [← HW.out, ← HGL.out]
    refine wp_region_calm (by kernel_rfl) ?_ ?_
    · kernel_rfl
    repeat first
     | go_big_quiet_skip
     | (go_big_quiet_want; go_big_quiet_op; go_big_quiet_on)
     | (with_reducible apply wpQuiet_step
        intro K hK
        go_simp
        first
          | (refine hK _ ?_; clear hK K)
          | (apply Exists.intro
             refine ⟨fun w' hw' => ?_, hK _ ?_⟩
             ·
               (first
                | with_reducible exact K1.out _ hw'
                | with_reducible exact K2.out _ hw'
                | with_reducible exact K3.out _ hw'
                | with_reducible exact K4.out _ hw'
                | (have g0 := blk_cell (blk_keep hw' HQ.out) 0 _ rfl
                   have g1 := blk_cell (blk_keep hw' HQ.out) 1 _ rfl
                   have g2 := blk_cell (blk_keep hw' HQ.out) 2 _ rfl
                   have g3 := blk_cell (blk_keep hw' HQ.out) 3 _ rfl
                   go_simp
                   first | done | with_reducible exact rfl | with_reducible exact ⟨rfl, rfl⟩ | with_reducible exact K1.out _ hw' | with_reducible exact K2.out _ hw' | with_reducible exact K3.out _ hw' | with_reducible exact K4.out _ hw'))
             clear hK K))
    refine wpQuiet_nil ?_
    intro w7 hw7
    have HB7 := Lib.hid (below_on HB0.out hw7)
    clear hw7
    go_wp2_with fail
    go_ret
    exact ⟨rfl, HB7.out⟩
  · go_enter Try.func5, Try.ntmps5
    go_upto_region 1 with fail
    rw [← HW.out, ← HGL.out]
    refine wp_region_calm (by kernel_rfl) ?_ ?_
    · kernel_rfl
    repeat first
     | go_big_quiet_skip
     | (go_big_quiet_want; go_big_quiet_op; go_big_quiet_on)
     | (with_reducible apply wpQuiet_step
        intro K hK
        go_simp
        first
          | (refine hK _ ?_; clear hK K)
          | (apply Exists.intro
             refine ⟨fun w' hw' => ?_, hK _ ?_⟩
             ·
               (first
                | with_reducible exact K1.out _ hw'
                | with_reducible exact K2.out _ hw'
                | with_reducible exact K3.out _ hw'
                | with_reducible exact K4.out _ hw'
                | (have g0 := blk_cell (blk_keep hw' HQ.out) 0 _ rfl
                   have g1 := blk_cell (blk_keep hw' HQ.out) 1 _ rfl
                   have g2 := blk_cell (blk_keep hw' HQ.out) 2 _ rfl
                   have g3 := blk_cell (blk_keep hw' HQ.out) 3 _ rfl
                   go_simp
                   first | done | with_reducible exact rfl | with_reducible exact ⟨rfl, rfl⟩ | with_reducible exact K1.out _ hw' | with_reducible exact K2.out _ hw' | with_reducible exact K3.out _ hw' | with_reducible exact K4.out _ hw'))
             clear hK K))
    refine wpQuiet_nil ?_
    intro w7 hw7
    have HB7 := Lib.hid (below_on HB0.out hw7)
    clear hw7
    go_wp2_with fail
    go_ret
    exact ⟨rfl, HB7.out⟩

theorem walk_TopoCheck (v0 : Array Value) (w : World) (_s0 : v0.size = Try.prog.cellsOf 39) (w0 : Rd Try.prog w 39 v0.toList) :
    Calls Try.prog 4 #[.agg v0] w fun e w' => e = .returned (.bool true) ∧ Below w.heap.size w w' := by
  obtain ⟨L, hv, hL⟩ := lay_of w0
  obtain rfl : v0 = #[L.se.v, L.po.v, L.sg.v, L.rt.v] := by apply Array.toList_inj.1; rw [hv]
  exact topoCheck_is L w hL
theorem walk_TopoRoute (v0 : Array Value) (a1 : Int) (w : World) (_s0 : v0.size = Try.prog.cellsOf 39) (w0 : Rd Try.prog w 39 v0.toList) (_w1 : (Lit.int .i64 a1).wf = true) :
    Calls Try.prog 5 #[.agg v0, .int .i64 a1] w fun e w' => e = .returned (.bool true) ∧ Below w.heap.size w w' := by
  obtain ⟨L, hv, hL⟩ := lay_of w0
  obtain rfl : v0 = #[L.se.v, L.po.v, L.sg.v, L.rt.v] := by apply Array.toList_inj.1; rw [hv]
  exact topoRoute_is L a1 w hL
end Go.Proofs.Ytdkcpejlojdijaa
