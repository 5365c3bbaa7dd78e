/-
  Layer 29: SafetyCycle.
-/
import Derived.Test.YthnpekbmaapgnaaSaK
import Derived.Test.YthnpekbmaapgnaaSaL
import Derived.Test.YthnpekbmaapgnaaMC
namespace Go.Proofs.Ythnpekbmaapgnaa
open Go.RowKit
set_option maxRecDepth 100000
attribute [local irreducible] ixF Sl.v pairS hasBit mayS Rt.tr Rt.nd checkS pw claI occS lieS turS shI shR withBit outS cycS conflictS
attribute [local irreducible] weightS

set_option maxHeartbeats 8000000 in
theorem safetyCycle_is (L : Lay) (ox nx rx p q : Nat) (ia : Option Addr) (il ic : Nat) (ho : ox < 18446744073709551616) (hp : p < 18446744073709551616) (hq : q < 4294967296) (hn : nx < 4294967296) (hr : rx < 4294967296) (w : World) (hL : LayAt w L) :
    Calls Try.prog 3 #[.agg #[L.se.v, L.po.v, L.sg.v, L.rt.v], .agg #[.int .u64 (ox : Int), .int .u32 (nx : Int), .int .u32 (rx : Int), .slice ia il ic], .agg #[.int .u64 (p : Int), .int .u32 (q : Int)]] w fun e w' => e = .returned (.bool true) ∧ Below w.heap.size w w' := by
  obtain ⟨nN, hN⟩ : ∃ nN, nx &&& (4294967295 - rx) = nN := ⟨_, rfl⟩
  obtain ⟨nV, hV⟩ : ∃ nV, rx &&& (4294967295 - nx) = nV := ⟨_, rfl⟩
  have hN1 : bits .andNot .u32 (nx : Int) (rx : Int) = (nN : Int) := by rw [u32_andNot_nat _ _ hn hr, hN]
  have hV1 : bits .andNot .u32 (rx : Int) (nx : Int) = (nV : Int) := by rw [u32_andNot_nat _ _ hr hn, hV]
  have hN2 : nN < 4294967296 := by rw [← hN]; exact Nat.lt_of_le_of_lt Nat.and_le_left hn
  have hV2 : nV < 4294967296 := by rw [← hV]; exact Nat.lt_of_le_of_lt Nat.and_le_left hr
  obtain ⟨v, hv⟩ : ∃ v, cycS L ox nN nV p q = v := ⟨_, rfl⟩
  obtain ⟨z, hz⟩ : ∃ z, weightS 400 L = z := ⟨_, rfl⟩
  obtain ⟨n1, hn1⟩ : ∃ n, L.se.l.length = n := ⟨_, rfl⟩
  obtain ⟨n2, hn2⟩ : ∃ n, L.po.l.length = n := ⟨_, rfl⟩
  obtain ⟨n3, hn3⟩ : ∃ n, L.sg.l.length = n := ⟨_, rfl⟩
  obtain ⟨n4, hn4⟩ : ∃ n, L.rt.l.length = n := ⟨_, rfl⟩
  have HC : Hid (∀ V, Below w.heap.size w V → Calls Try.prog 9 #[.agg #[L.se.v, L.po.v, L.sg.v, L.rt.v], .agg #[.int .u64 (ox : Int), .int .u32 (nx : Int), .int .u32 (rx : Int), .slice ia il ic], .agg #[.int .u64 (p : Int), .int .u32 (q : Int)]] V fun e w' => e = .returned (.int .u8 (v : Int)) ∧ Below V.heap.size V w') := Lib.hid (fun V hV' => scycle_is v L ox nx rx p q nN nV ia il ic ho hp hq hN1 hV1 hN2 hV2 hv V (hL.below hV'))
  have HR : Hid (∀ V, Below w.heap.size w V → Calls Try.prog 10 #[.agg #[L.se.v, L.po.v, L.sg.v, L.rt.v], .agg #[.int .u64 (ox : Int), .int .u32 (nx : Int), .int .u32 (rx : Int), .slice ia il ic], .agg #[.int .u64 (p : Int), .int .u32 (q : Int)]] V fun e w' => e = .returned (.int .u8 (v : Int)) ∧ Below V.heap.size V w') := Lib.hid (fun V hV' => rcycle_is v L ox nx rx p q nN nV ia il ic ho hp hq hN1 hV1 hN2 hV2 hv V (hL.below hV'))
  have HW : Hid (∀ V, Below w.heap.size w V → Calls Try.prog 8 #[.agg #[L.se.v, L.po.v, L.sg.v, L.rt.v], .int .i64 400] V fun e w' => e = .returned (.int .i64 z) ∧ Below V.heap.size V w') := Lib.hid (fun V hV' => hz ▸ weight_is 400 L V (hL.below hV'))
  rw [slv hn1, slv hn2, slv hn3, slv hn4] at HC HR HW
  rw [slv hn1, slv hn2, slv hn3, slv hn4]
  clear hn1 hn2 hn3 hn4 hL ho hp hq hn hr hN hV hN1 hV1 hN2 hV2 hv hz
  go_enter Try.func3, Try.ntmps3
  go_upto_region 1 with fail
  refine name_last (os := [.cells #[.slice L.se.a n1 L.se.c, .slice L.po.a n2 L.po.c, .slice L.sg.a n3 L.sg.c, .slice L.rt.a n4 L.rt.c] 27, .cells #[.int .u64 (ox : Int), .int .u32 (nx : Int), .int .u32 (rx : Int), .slice ia il ic] 32, .cells #[.int .u64 (p : Int), .int .u32 (q : Int)] 34]) (w0 := w) rfl ?_
  intro W hat hbw
  obtain ⟨gl, hgl⟩ : ∃ g, g = w.heap.size := ⟨_, rfl⟩
  obtain ⟨gi, hgi⟩ : ∃ g, g = gl + 1 := ⟨_, rfl⟩
  obtain ⟨go, hgo⟩ : ∃ g, g = gi + 1 := ⟨_, rfl⟩
  have q0 := hat 0 _ rfl
  have q1 := hat 1 _ rfl
  have q2 := hat 2 _ rfl
  rw [Nat.add_zero, ← hgl] at q0
  rw [← hgl, ← hgi] at q1
  rw [show w.heap.size + 2 = go by omega] at q2
  rw [← hgl, ← hgi, ← hgo]
  have HQL := Lib.hid q0
  have HQI := Lib.hid q1
  have HQO := Lib.hid q2
  have HB0 := Lib.hid hbw
  clear hat hbw hgl hgi hgo q0 q1 q2
  have KC : Hid (∀ w', Below W.heap.size W w' → Calls Try.prog 9 #[.agg #[.slice L.se.a n1 L.se.c, .slice L.po.a n2 L.po.c, .slice L.sg.a n3 L.sg.c, .slice L.rt.a n4 L.rt.c], .agg #[.int .u64 (ox : Int), .int .u32 (nx : Int), .int .u32 (rx : Int), .slice ia il ic], .agg #[.int .u64 (p : Int), .int .u32 (q : Int)]] w' fun e w'' => e = .returned (.int .u8 (v : Int)) ∧ Below W.heap.size W w'') := Lib.hid (fun w' hw' => (HC.out w' (below_on HB0.out hw')).mono (fun _ _ h => ⟨h.1, below_on hw' h.2⟩))
  have KR : Hid (∀ w', Below W.heap.size W w' → Calls Try.prog 10 #[.agg #[.slice L.se.a n1 L.se.c, .slice L.po.a n2 L.po.c, .slice L.sg.a n3 L.sg.c, .slice L.rt.a n4 L.rt.c], .agg #[.int .u64 (ox : Int), .int .u32 (nx : Int), .int .u32 (rx : Int), .slice ia il ic], .agg #[.int .u64 (p : Int), .int .u32 (q : Int)]] w' fun e w'' => e = .returned (.int .u8 (v : Int)) ∧ Below W.heap.size W w'') := Lib.hid (fun w' hw' => (HR.out w' (below_on HB0.out hw')).mono (fun _ _ h => ⟨h.1, below_on hw' h.2⟩))
  have KW : Hid (∀ w', Below W.heap.size W w' → Calls Try.prog 8 #[.agg #[.slice L.se.a n1 L.se.c, .slice L.po.a n2 L.po.c, .slice L.sg.a n3 L.sg.c, .slice L.rt.a n4 L.rt.c], .int .i64 400] w' fun e w'' => e = .returned (.int .i64 z) ∧ Below W.heap.size W w'') := Lib.hid (fun w' hw' => (HW.out w' (below_on HB0.out hw')).mono (fun _ _ h => ⟨h.1, below_on hw' h.2⟩))
  have KWO : Hid (∀ w', Below W.heap.size W w' → Calls Try.prog 11 #[] w' fun e w'' => e = .returned (.bool true) ∧ Below W.heap.size W w'') := Lib.hid (fun w' hw' => (works_is w').mono (fun _ _ h => ⟨h.1, below_on hw' h.2⟩))
  by_cases h1 : 400 < z
  · skip
    refine wp_region_calm (by kernel_rfl) ?_ ?_
    · kernel_rfl
    repeat first
     | go_big_quiet_skip
     | (go_big_quiet_want; go_big_quiet_op; go_big_quiet_on)
     | (with_reducible apply wpQuiet_step
        intro K hK
        go_simp
        first
          | (refine hK _ ?_; clear hK K)
          | (apply Exists.intro
             refine ⟨fun w' hw' => ?_, hK _ ?_⟩
             ·
               (first
                | with_reducible exact KW.out _ hw'
                | with_reducible exact KC.out _ hw'
                | with_reducible exact KR.out _ hw'
                | with_reducible exact KWO.out _ hw'
                | (have g0 := blk_cell (blk_keep hw' HQL.out) 0 _ rfl
                   have g1 := blk_cell (blk_keep hw' HQL.out) 1 _ rfl
                   have g2 := blk_cell (blk_keep hw' HQL.out) 2 _ rfl
                   have g3 := blk_cell (blk_keep hw' HQL.out) 3 _ rfl
                   go_simp
                   first | done | with_reducible exact rfl | with_reducible exact ⟨rfl, rfl⟩ | with_reducible exact KW.out _ hw' | with_reducible exact KC.out _ hw' | with_reducible exact KR.out _ hw' | with_reducible exact KWO.out _ hw')
                | (have g0 := blk_cell (blk_keep hw' HQI.out) 0 _ rfl
                   have g1 := blk_cell (blk_keep hw' HQI.out) 1 _ rfl
                   have g2 := blk_cell (blk_keep hw' HQI.out) 2 _ rfl
                   have g3 := blk_cell (blk_keep hw' HQI.out) 3 _ rfl
                   go_simp
                   first | done | with_reducible exact rfl | with_reducible exact ⟨rfl, rfl⟩ | with_reducible exact KW.out _ hw' | with_reducible exact KC.out _ hw' | with_reducible exact KR.out _ hw' | with_reducible exact KWO.out _ hw')
                | (have g0 := blk_cell (blk_keep hw' HQO.out) 0 _ rfl
                   have g1 := blk_cell (blk_keep hw' HQO.out) 1 _ rfl
                   go_simp
                   first | done | with_reducible exact rfl | with_reducible exact ⟨rfl, rfl⟩ | with_reducible exact KW.out _ hw' | with_reducible exact KC.out _ hw' | with_reducible exact KR.out _ hw' | with_reducible exact KWO.out _ hw'))
             clear hK K))
    refine wpQuiet_nil ?_
    intro w7 hw7
    have HB7 := Lib.hid (below_on HB0.out hw7)
    clear hw7
    go_wp2_with fail
    go_ret
    exact ⟨rfl, HB7.out⟩
  by_cases h2 : (100 : Int) < il
  · skip
    refine wp_region_calm (by kernel_rfl) ?_ ?_
    · kernel_rfl
    repeat first
     | go_big_quiet_skip
     | (go_big_quiet_want; go_big_quiet_op; go_big_quiet_on)
     | (with_reducible apply wpQuiet_step
        intro K hK
        go_simp
        first
          | (refine hK _ ?_; clear hK K)
          | (apply Exists.intro
             refine ⟨fun w' hw' => ?_, hK _ ?_⟩
             ·
               (first
                | with_reducible exact KW.out _ hw'
                | with_reducible exact KC.out _ hw'
                | with_reducible exact KR.out _ hw'
                | with_reducible exact KWO.out _ hw'
                | (have g0 := blk_cell (blk_keep hw' HQL.out) 0 _ rfl
                   have g1 := blk_cell (blk_keep hw' HQL.out) 1 _ rfl
                   have g2 := blk_cell (blk_keep hw' HQL.out) 2 _ rfl
                   have g3 := blk_cell (blk_keep hw' HQL.out) 3 _ rfl
                   go_simp
                   first | done | with_reducible exact rfl | with_reducible exact ⟨rfl, rfl⟩ | with_reducible exact KW.out _ hw' | with_reducible exact KC.out _ hw' | with_reducible exact KR.out _ hw' | with_reducible exact KWO.out _ hw')
                | (have g0 := blk_cell (blk_keep hw' HQI.out) 0 _ rfl
                   have g1 := blk_cell (blk_keep hw' HQI.out) 1 _ rfl
                   have g2 := blk_cell (blk_keep hw' HQI.out) 2 _ rfl
                   have g3 := blk_cell (blk_keep hw' HQI.out) 3 _ rfl
                   go_simp
                   first | done | with_reducible exact rfl | with_reducible exact ⟨rfl, rfl⟩ | with_reducible exact KW.out _ hw' | with_reducible exact KC.out _ hw' | with_reducible exact KR.out _ hw' | with_reducible exact KWO.out _ hw')
                | (have g0 := blk_cell (blk_keep hw' HQO.out) 0 _ rfl
                   have g1 := blk_cell (blk_keep hw' HQO.out) 1 _ rfl
                   go_simp
                   first | done | with_reducible exact rfl | with_reducible exact ⟨rfl, rfl⟩ | with_reducible exact KW.out _ hw' | with_reducible exact KC.out _ hw' | with_reducible exact KR.out _ hw' | with_reducible exact KWO.out _ hw'))
             clear hK K))
    refine wpQuiet_nil ?_
    intro w7 hw7
    have HB7 := Lib.hid (below_on HB0.out hw7)
    clear hw7
    go_wp2_with fail
    go_ret
    exact ⟨rfl, HB7.out⟩
  · skip
    refine wp_region_calm (by kernel_rfl) ?_ ?_
    · kernel_rfl
    repeat first
     | go_big_quiet_skip
     | (go_big_quiet_want; go_big_quiet_op; go_big_quiet_on)
     | (with_reducible apply wpQuiet_step
        intro K hK
        go_simp
        first
          | (refine hK _ ?_; clear hK K)
          | (apply Exists.intro
             refine ⟨fun w' hw' => ?_, hK _ ?_⟩
             ·
               (first
                | with_reducible exact KW.out _ hw'
                | with_reducible exact KC.out _ hw'
                | with_reducible exact KR.out _ hw'
                | with_reducible exact KWO.out _ hw'
                | (have g0 := blk_cell (blk_keep hw' HQL.out) 0 _ rfl
                   have g1 := blk_cell (blk_keep hw' HQL.out) 1 _ rfl
                   have g2 := blk_cell (blk_keep hw' HQL.out) 2 _ rfl
                   have g3 := blk_cell (blk_keep hw' HQL.out) 3 _ rfl
                   go_simp
                   first | done | with_reducible exact rfl | with_reducible exact ⟨rfl, rfl⟩ | with_reducible exact KW.out _ hw' | with_reducible exact KC.out _ hw' | with_reducible exact KR.out _ hw' | with_reducible exact KWO.out _ hw')
                | (have g0 := blk_cell (blk_keep hw' HQI.out) 0 _ rfl
                   have g1 := blk_cell (blk_keep hw' HQI.out) 1 _ rfl
                   have g2 := blk_cell (blk_keep hw' HQI.out) 2 _ rfl
                   have g3 := blk_cell (blk_keep hw' HQI.out) 3 _ rfl
                   go_simp
                   first | done | with_reducible exact rfl | with_reducible exact ⟨rfl, rfl⟩ | with_reducible exact KW.out _ hw' | with_reducible exact KC.out _ hw' | with_reducible exact KR.out _ hw' | with_reducible exact KWO.out _ hw')
                | (have g0 := blk_cell (blk_keep hw' HQO.out) 0 _ rfl
                   have g1 := blk_cell (blk_keep hw' HQO.out) 1 _ rfl
                   go_simp
                   first | done | with_reducible exact rfl | with_reducible exact ⟨rfl, rfl⟩ | with_reducible exact KW.out _ hw' | with_reducible exact KC.out _ hw' | with_reducible exact KR.out _ hw' | with_reducible exact KWO.out _ hw'))
             clear hK K))
    refine wpQuiet_nil ?_
    intro w7 hw7
    have HB7 := Lib.hid (below_on HB0.out hw7)
    clear hw7
    go_wp2_with fail
    go_ret
    exact ⟨rfl, HB7.out⟩
end Go.Proofs.Ythnpekbmaapgnaa
