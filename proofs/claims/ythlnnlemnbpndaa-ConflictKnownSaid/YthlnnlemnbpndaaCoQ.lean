/-
  Walks: ConflictPair and ConflictOf.
-/
import Derived.Test.YthlnnlemnbpndaaCoP
import Derived.Test.YthlnnlemnbpndaaCoKr
import Derived.Test.YthlnnlemnbpndaaMC
namespace Go.Proofs.Ythlnnlemnbpndaa
open Go.RowKit
set_option maxRecDepth 100000
attribute [local irreducible] Sl.v checkS weightS pairS cofL tabL mayS
theorem lay_own {w : World} {L : Lay} {n1 n2 n3 n4 g : Nat} (h : w.heap[g]? = some (.cells #[.slice L.se.a n1 L.se.c, .slice L.po.a n2 L.po.c, .slice L.sg.a n3 L.sg.c, .slice L.rt.a n4 L.rt.c] 27)) : w.cell? ⟨g, 0, none⟩ = some (.slice L.se.a n1 L.se.c) ∧ w.cell? ⟨g, 1, none⟩ = some (.slice L.po.a n2 L.po.c) ∧ w.cell? ⟨g, 2, none⟩ = some (.slice L.sg.a n3 L.sg.c) ∧ w.cell? ⟨g, 3, none⟩ = some (.slice L.rt.a n4 L.rt.c) :=
  ⟨blk_cell h 0 _ rfl, blk_cell h 1 _ rfl, blk_cell h 2 _ rfl, blk_cell h 3 _ rfl⟩
theorem sameints_one (x1 : Option Addr) (m1 c1 : Nat) (l : List Int) (x2 : Option Addr) (m2 c2 : Nat) (w0 w : World) (hb : Below w0.heap.size w0 w) (hn1 : m1 = l.length) (hn2 : m2 = l.length) (hr1 : SlAt 1 intC w0 ⟨x1, c1, l⟩) (hr2 : SlAt 1 intC w ⟨x2, c2, l⟩) :
    Calls Try.prog 20 #[.slice x1 m1 c1, .slice x2 m2 c2] w fun e w' => e = .returned (.bool true) ∧ Below w.heap.size w w' :=
  (sameints_is x1 m1 c1 l x2 m2 c2 l w hn1.symm hn2.symm (by rw [hn1]; exact hr1.lenM) (hr1.below hb).row hr2.row).mono (fun _ _ h => ⟨by rw [h.1, decide_eq_true rfl], h.2⟩)
set_option maxHeartbeats 4000000 in
theorem conflictPair_is (L : Lay) (a b : Int) (w : World) (hL : LayAt w L) : Calls Try.prog 18 #[.agg #[L.se.v, L.po.v, L.sg.v, L.rt.v], .int .i64 a, .int .i64 b] w fun e w' => e = .returned (.bool true) ∧ Below w.heap.size w w' := by
  obtain ⟨n1, hn1⟩ : ∃ n, L.se.l.length = n := ⟨_, rfl⟩
  obtain ⟨n2, hn2⟩ : ∃ n, L.po.l.length = n := ⟨_, rfl⟩
  obtain ⟨n3, hn3⟩ : ∃ n, L.sg.l.length = n := ⟨_, rfl⟩
  obtain ⟨n4, hn4⟩ : ∃ n, L.rt.l.length = n := ⟨_, rfl⟩
  have b0 := below1 w (.cells #[.slice L.se.a n1 L.se.c, .slice L.po.a n2 L.po.c, .slice L.sg.a n3 L.sg.c, .slice L.rt.a n4 L.rt.c] 27)
  have hq := alloc1 w (.cells #[.slice L.se.a n1 L.se.c, .slice L.po.a n2 L.po.c, .slice L.sg.a n3 L.sg.c, .slice L.rt.a n4 L.rt.c] 27) (Below.refl _ _)
  obtain ⟨W, hW⟩ : ∃ W, W = w.alloc (.cells #[.slice L.se.a n1 L.se.c, .slice L.po.a n2 L.po.c, .slice L.sg.a n3 L.sg.c, .slice L.rt.a n4 L.rt.c] 27) := ⟨_, rfl⟩
  rw [← hW] at b0 hq
  have hLW := hL.below b0
  obtain ⟨z, hz⟩ : ∃ z, weightS 1000 L = z := ⟨_, rfl⟩
  have KW : Hid (∀ w', Below W.heap.size W w' → Calls Try.prog 7 #[.agg #[L.se.v, L.po.v, L.sg.v, L.rt.v], .int .i64 1000] w' fun e w'' => e = .returned (.int .i64 z) ∧ Below W.heap.size W w'') := Lib.hid (fun w' hw' => hz ▸ (weight_is 1000 L w' (hLW.below hw')).mono (fun _ _ h => ⟨h.1, below_on hw' h.2⟩))
  have KWO : Hid (∀ w', Below W.heap.size W w' → Calls Try.prog 8 #[] w' fun e w'' => e = .returned (.bool true) ∧ Below W.heap.size W w'') := Lib.hid (fun w' hw' => (works_is w').mono (fun _ _ h => ⟨h.1, below_on hw' h.2⟩))
  obtain ⟨p, hp⟩ : ∃ p, pairS L a b = p := ⟨_, rfl⟩
  have KP : Hid (∀ w', Below W.heap.size W w' → Calls Try.prog 13 #[.agg #[L.se.v, L.po.v, L.sg.v, L.rt.v], .int .i64 a, .int .i64 b] w' fun e w'' => e = .returned (.bool p) ∧ Below W.heap.size W w'') := Lib.hid (fun w' hw' => (pair_is L a b p hp w' (hLW.below hw')).mono (fun _ _ h => ⟨h.1, below_on hw' h.2⟩))
  have KR : Hid (∀ w', Below W.heap.size W w' → Calls Try.prog 32 #[.agg #[L.se.v, L.po.v, L.sg.v, L.rt.v], .int .i64 a, .int .i64 b] w' fun e w'' => e = .returned (.bool p) ∧ Below W.heap.size W w'') := Lib.hid (fun w' hw' => (rpair_is L a b p hp w' (hLW.below hw')).mono (fun _ _ h => ⟨h.1, below_on hw' h.2⟩))
  clear hp
  have HZ := Lib.hid hz
  have HN4 := Lib.hid hn4
  rw [slv hn1, slv hn2, slv hn3, slv hn4] at KW KP KR
  rw [slv hn1, slv hn2, slv hn3, slv hn4]
  have HW := Lib.hid hW
  have HB0 := Lib.hid b0
  have HQ := Lib.hid hq
  have HLW := Lib.hid hLW
  clear hn1 hn2 hn3 hn4 hLW hW b0 hq hz
  obtain ⟨gl, hgl⟩ : ∃ g, g = w.heap.size := ⟨_, rfl⟩
  have HGL := Lib.hid hgl
  rw [← hgl] at HQ
  clear hgl
  by_cases hz : 1000 < z
  · go_enter Try.func18, Try.ntmps18
    go_upto_region 1 with fail
    rw [← HW.out, ← HGL.out]
    refine wp_region_calm (by kernel_rfl) ?_ ?_
    · kernel_rfl
    repeat first
     | go_big_quiet_skip
     | (go_big_quiet_want; go_big_quiet_op; go_big_quiet_on)
     | (with_reducible apply wpQuiet_step
        intro K hK
        go_simp
        first
          | (refine hK _ ?_; clear hK K)
          | (apply Exists.intro
             refine ⟨fun w' hw' => ?_, hK _ ?_⟩
             ·
               (first
                | with_reducible exact KW.out _ hw'
                | with_reducible exact KWO.out _ hw'
                | with_reducible exact KP.out _ hw'
                | with_reducible exact KR.out _ hw'
                | (have g0 := blk_cell (blk_keep hw' HQ.out) 0 _ rfl
                   have g1 := blk_cell (blk_keep hw' HQ.out) 1 _ rfl
                   have g2 := blk_cell (blk_keep hw' HQ.out) 2 _ rfl
                   have g3 := blk_cell (blk_keep hw' HQ.out) 3 _ rfl
                   go_simp
                   first | done | with_reducible exact rfl | with_reducible exact ⟨rfl, rfl⟩ | with_reducible exact KW.out _ hw' | with_reducible exact KWO.out _ hw' | with_reducible exact KP.out _ hw' | with_reducible exact KR.out _ hw'))
             clear hK K))
    refine wpQuiet_nil ?_
    intro w7 hw7
    have HB7 := Lib.hid (below_on HB0.out hw7)
    clear hw7
    go_wp2_with fail
    go_ret
    exact ⟨rfl, HB7.out⟩
  · go_enter Try.func18, Try.ntmps18
    go_upto_region 1 with fail
    rw [← HW.out, ← HGL.out]
    refine wp_region_calm (by kernel_rfl) ?_ ?_
    · kernel_rfl
    repeat first
     | go_big_quiet_skip
     | (go_big_quiet_want; go_big_quiet_op; go_big_quiet_on)
     | (with_reducible apply wpQuiet_step
        intro K hK
        go_simp
        first
          | (refine hK _ ?_; clear hK K)
          | (apply Exists.intro
             refine ⟨fun w' hw' => ?_, hK _ ?_⟩
             ·
               (first
                | with_reducible exact KW.out _ hw'
                | with_reducible exact KWO.out _ hw'
                | with_reducible exact KP.out _ hw'
                | with_reducible exact KR.out _ hw'
                | (have g0 := blk_cell (blk_keep hw' HQ.out) 0 _ rfl
                   have g1 := blk_cell (blk_keep hw' HQ.out) 1 _ rfl
                   have g2 := blk_cell (blk_keep hw' HQ.out) 2 _ rfl
                   have g3 := blk_cell (blk_keep hw' HQ.out) 3 _ rfl
                   go_simp
                   first | done | with_reducible exact rfl | with_reducible exact ⟨rfl, rfl⟩ | with_reducible exact KW.out _ hw' | with_reducible exact KWO.out _ hw' | with_reducible exact KP.out _ hw' | with_reducible exact KR.out _ hw'))
             clear hK K))
    refine wpQuiet_nil ?_
    intro w7 hw7
    have HB7 := Lib.hid (below_on HB0.out hw7)
    clear hw7
    go_wp2_with fail
    go_ret
    exact ⟨rfl, HB7.out⟩
set_option maxHeartbeats 4000000 in
theorem conflictOf_is (L : Lay) (n : Int) (w : World) (hL : LayAt w L) : Calls Try.prog 19 #[.agg #[L.se.v, L.po.v, L.sg.v, L.rt.v], .int .i64 n] w fun e w' => e = .returned (.bool true) ∧ Below w.heap.size w w' := by
  obtain ⟨n1, hn1⟩ : ∃ n, L.se.l.length = n := ⟨_, rfl⟩
  obtain ⟨n2, hn2⟩ : ∃ n, L.po.l.length = n := ⟨_, rfl⟩
  obtain ⟨n3, hn3⟩ : ∃ n, L.sg.l.length = n := ⟨_, rfl⟩
  obtain ⟨n4, hn4⟩ : ∃ n, L.rt.l.length = n := ⟨_, rfl⟩
  have b0 := below1 w (.cells #[.slice L.se.a n1 L.se.c, .slice L.po.a n2 L.po.c, .slice L.sg.a n3 L.sg.c, .slice L.rt.a n4 L.rt.c] 27)
  have hq := alloc1 w (.cells #[.slice L.se.a n1 L.se.c, .slice L.po.a n2 L.po.c, .slice L.sg.a n3 L.sg.c, .slice L.rt.a n4 L.rt.c] 27) (Below.refl _ _)
  obtain ⟨W, hW⟩ : ∃ W, W = w.alloc (.cells #[.slice L.se.a n1 L.se.c, .slice L.po.a n2 L.po.c, .slice L.sg.a n3 L.sg.c, .slice L.rt.a n4 L.rt.c] 27) := ⟨_, rfl⟩
  rw [← hW] at b0 hq
  have hLW := hL.below b0
  obtain ⟨z, hz⟩ : ∃ z, weightS 1000 L = z := ⟨_, rfl⟩
  have KW : Hid (∀ w', Below W.heap.size W w' → Calls Try.prog 7 #[.agg #[L.se.v, L.po.v, L.sg.v, L.rt.v], .int .i64 1000] w' fun e w'' => e = .returned (.int .i64 z) ∧ Below W.heap.size W w'') := Lib.hid (fun w' hw' => hz ▸ (weight_is 1000 L w' (hLW.below hw')).mono (fun _ _ h => ⟨h.1, below_on hw' h.2⟩))
  have KWO : Hid (∀ w', Below W.heap.size W w' → Calls Try.prog 8 #[] w' fun e w'' => e = .returned (.bool true) ∧ Below W.heap.size W w'') := Lib.hid (fun w' hw' => (works_is w').mono (fun _ _ h => ⟨h.1, below_on hw' h.2⟩))
  have KO : Hid (∀ w', Below W.heap.size W w' → Calls Try.prog 21 #[.agg #[L.se.v, L.po.v, L.sg.v, L.rt.v], .int .i64 n] w' fun e w'' => ∃ a m c, e = .returned (.slice a m c) ∧ m = (cofL L n).length ∧ SlAt 1 intC w'' ⟨a, c, cofL L n⟩ ∧ Below w'.heap.size w' w'') := Lib.hid (fun w' hw' => of_is L n w' (hLW.below hw'))
  have KR : Hid (∀ w', Below W.heap.size W w' → Calls Try.prog 22 #[.agg #[L.se.v, L.po.v, L.sg.v, L.rt.v], .int .i64 n] w' fun e w'' => ∃ a m c, e = .returned (.slice a m c) ∧ m = (cofL L n).length ∧ SlAt 1 intC w'' ⟨a, c, cofL L n⟩ ∧ Below w'.heap.size w' w'') := Lib.hid (fun w' hw' => rof_is L n w' (hLW.below hw'))
  have HZ := Lib.hid hz
  have HN4 := Lib.hid hn4
  rw [slv hn1, slv hn2, slv hn3, slv hn4] at KW KO KR
  rw [slv hn1, slv hn2, slv hn3, slv hn4]
  have HW := Lib.hid hW
  have HB0 := Lib.hid b0
  have HQ := Lib.hid hq
  have HLW := Lib.hid hLW
  clear hn1 hn2 hn3 hn4 hLW hW b0 hq hz
  obtain ⟨gl, hgl⟩ : ∃ g, g = w.heap.size := ⟨_, rfl⟩
  have HGL := Lib.hid hgl
  rw [← hgl] at HQ
  clear hgl
  by_cases hz : 1000 < z
  · go_enter Try.func19, Try.ntmps19
    go_upto_region 1 with fail
    rw [← HW.out, ← HGL.out]
    refine wp_region_calm (by kernel_rfl) ?_ ?_
    · kernel_rfl
    repeat first
     | go_big_quiet_skip
     | (go_big_quiet_want; go_big_quiet_op; go_big_quiet_on)
     | (with_reducible apply wpQuiet_step
        intro K hK
        go_simp
        first
          | (refine hK _ ?_; clear hK K)
          | (apply Exists.intro
             refine ⟨fun w' hw' => ?_, hK _ ?_⟩
             ·
               (first
                | with_reducible exact KW.out _ hw'
                | with_reducible exact KWO.out _ hw'
                | (have g0 := blk_cell (blk_keep hw' HQ.out) 0 _ rfl
                   have g1 := blk_cell (blk_keep hw' HQ.out) 1 _ rfl
                   have g2 := blk_cell (blk_keep hw' HQ.out) 2 _ rfl
                   have g3 := blk_cell (blk_keep hw' HQ.out) 3 _ rfl
                   go_simp
                   first | done | with_reducible exact rfl | with_reducible exact ⟨rfl, rfl⟩ | with_reducible exact KW.out _ hw' | with_reducible exact KWO.out _ hw'))
             clear hK K))
    refine wpQuiet_nil ?_
    intro w7 hw7
    have HB7 := Lib.hid (below_on HB0.out hw7)
    clear hw7
    go_wp2_with fail
    go_ret
    exact ⟨rfl, HB7.out⟩
  · go_enter Try.func19, Try.ntmps19
    go_upto_region 1 with fail
    rw [← HW.out, ← HGL.out]
    have hzd : decide ((1000 : Int) < z) = false := decide_eq_false hz
    have HS : Hid (∀ w', Below W.heap.size W w' → w'.cell? ⟨gl, 0, none⟩ = some (.slice L.se.a n1 L.se.c) ∧ w'.cell? ⟨gl, 1, none⟩ = some (.slice L.po.a n2 L.po.c) ∧ w'.cell? ⟨gl, 2, none⟩ = some (.slice L.sg.a n3 L.sg.c) ∧ w'.cell? ⟨gl, 3, none⟩ = some (.slice L.rt.a n4 L.rt.c)) := Lib.hid (fun w' hw' => lay_own (blk_keep hw' HQ.out))
    go_region_held3 (fun w' => w'.cell? ⟨gl, 0, none⟩ = some (.slice L.se.a n1 L.se.c) ∧ w'.cell? ⟨gl, 1, none⟩ = some (.slice L.po.a n2 L.po.c) ∧ w'.cell? ⟨gl, 2, none⟩ = some (.slice L.sg.a n3 L.sg.c) ∧ w'.cell? ⟨gl, 3, none⟩ = some (.slice L.rt.a n4 L.rt.c))
      (exact HS.out _ (by first | exact (Below.refl _ W) | exact (Below.refl _ W).drew | assumption))
      (first
        | ((with_reducible refine (KW.out _ (by first | exact Below.refl _ W | exact (Below.refl _ W).drew | assumption)).mono ?_); rintro e v1 ⟨rfl, hb1⟩; skip)
        | ((with_reducible refine (KO.out _ (by first | exact hb1 | exact (hb1).drew | assumption)).mono ?_); rintro e v2 ⟨x1, m1, c1, rfl, hm1, hx1, hv2⟩; have hb2 : Below W.heap.size W v2 := below_on (by first | exact hb1 | exact (hb1).drew | assumption) hv2)
        | ((with_reducible refine (KR.out _ (by first | exact hb2 | exact (hb2).drew | assumption)).mono ?_); rintro e v3 ⟨x2, m2, c2, rfl, hm2, hx2, hv3⟩; have hb3 : Below W.heap.size W v3 := below_on (by first | exact hb2 | exact (hb2).drew | assumption) hv3)
        | ((with_reducible refine (KWO.out _ (by first | exact hb4 | exact (hb4).drew | assumption)).mono ?_); rintro e v5 ⟨rfl, hb5⟩; skip)
        | ((with_reducible refine (sameints_one x1 _ c1 (cofL L n) x2 _ c2 v2 _ (by first | exact hv3 | exact below_undrew hv3 | exact hv3.drew) (by first | rfl | exact hm1) (by first | rfl | exact hm2) hx1 hx2).mono ?_); rintro e v4 ⟨rfl, hv4⟩; have hb4 : Below W.heap.size W v4 := below_on (by first | exact hb3 | exact hb3.drew | assumption) hv4))
    have HBF := Lib.hid (below_on HB0.out hb5)
    clear HS KW KO KR KWO hb1 hm1 hx1 hv2 hb2 hm2 hx2 hv3 hb3 hv4 hb4 hb5
    go_wp2_with fail
    go_ret
    exact ⟨rfl, HBF.out⟩
end Go.Proofs.Ythlnnlemnbpndaa
