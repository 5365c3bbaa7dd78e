/-
 Layer 10: IlxaNew.
-/
import Derived.Test.YtjienmjpfklgeaaIyF
import Derived.Test.YtjienmjpfklgeaaMD
namespace Go.Proofs.Ytjienmjpfklgeaa
open Go.RowKit
set_option maxRecDepth 100000
theorem eq_oo (w : World) : (binOp .eql 48 (.agg #[.int .u64 0, .int .u32 0]) (.agg #[.int .u64 0, .int .u32 0])).run Try.prog w = .ok (.bool true) w := by kernel_rfl
theorem step_nil0 (s : St) (w : World) : Calls Try.prog 11 #[.pointer none, .agg (stL s).toArray, .agg #[.int .u64 0, .int .u32 0, .int .u32 0, .slice none 0 0]] w fun e w' => e = .returned (.tuple #[.agg (stL zS).toArray, .agg #[.int .u64 0, .int .u32 0]]) ∧ Below w.heap.size w w' :=
 step_nil s ⟨0, 0, 0, .slice none 0 0⟩ none 0 0 w
attribute [local irreducible] Sl.v hasBit pw withBit woBit cyL stL stV tmL freeS ndBad maySet ptL setS mayCan canS canD nedS flipB mayMov movS comG relS rouS proS tidyS comsG rousS prosS nextG outS lnOk rightK rgtS eqS Mc.tb upd mayS checkS sideN
attribute [local irreducible] tbL rwL secOf cofL Rt.tr Rt.nd conflictS pairS formedS
attribute [local irreducible] mskS
attribute [local irreducible] zS

set_option maxHeartbeats 8000000 in
theorem ilxaNew_is (L : Lay) (s : St) (w : World) (hL : LayAt w L) :
 Calls Try.prog 4 #[.agg #[L.se.v, L.po.v, L.sg.v, L.rt.v], .agg (stL s).toArray] w fun e w' => e = .returned (.bool true) ∧ Below w.heap.size w w' := by
 obtain ⟨n1, hn1⟩ : ∃ n, L.se.l.length = n := ⟨_, rfl⟩
 obtain ⟨n2, hn2⟩ : ∃ n, L.po.l.length = n := ⟨_, rfl⟩
 obtain ⟨n3, hn3⟩ : ∃ n, L.sg.l.length = n := ⟨_, rfl⟩
 obtain ⟨n4, hn4⟩ : ∃ n, L.rt.l.length = n := ⟨_, rfl⟩
 obtain ⟨z, hz⟩ : ∃ z, weightS 1000 L = z := ⟨_, rfl⟩
 have KW : Hid (∀ V, Below w.heap.size w V → Calls Try.prog 14 #[.agg #[L.se.v, L.po.v, L.sg.v, L.rt.v], .int .i64 1000] V fun e w' => e = .returned (.int .i64 z) ∧ Below V.heap.size V w') := Lib.hid (fun V hV => hz ▸ (weight_is 1000 L V (hL.below hV)).mono (fun _ _ h => ⟨h.1, h.2⟩))
 obtain ⟨c, hc⟩ : ∃ c, (checkS L).1 = c := ⟨_, rfl⟩
 obtain ⟨d, hd⟩ : ∃ c, (checkS L).2 = c := ⟨_, rfl⟩
 have KC : Hid (∀ V, Below w.heap.size w V → Calls Try.prog 16 #[.agg #[L.se.v, L.po.v, L.sg.v, L.rt.v]] V fun e w' => e = .returned (.tuple #[.int .i64 c, .int .i64 d]) ∧ Below V.heap.size V w') := Lib.hid (fun V hV => hc ▸ hd ▸ rcheck_is L V (hL.below hV))
 by_cases h4 : 1000 < z
 ·rw [slv hn1, slv hn2, slv hn3, slv hn4] at KW KC ⊢
  clear hn1 hn2 hn3 hn4 hL hz hc hd KC
  go_enter Try.func4, Try.ntmps4
  go_upto_region 1 with fail
  refine name_last (os := [.cells #[.slice L.se.a n1 L.se.c, .slice L.po.a n2 L.po.c, .slice L.sg.a n3 L.sg.c, .slice L.rt.a n4 L.rt.c] 27, .cells (stL s).toArray 32]) (w0 := w) rfl ?_
  intro W hat hbw
  obtain ⟨gl, hgl⟩ : ∃ g, g = w.heap.size := ⟨_, rfl⟩
  have q0 := hat 0 _ rfl
  obtain ⟨gs, hgs⟩ : ∃ g, g = gl + 1 := ⟨_, rfl⟩
  have q1 := hat 1 _ rfl
  rw [Nat.add_zero, ← hgl] at q0
  rw [← hgl, ← hgs] at q1
  rw [← hgl, ← hgs]
  have HQl := Lib.hid q0
  have HQs := Lib.hid q1
  have HB0 := Lib.hid hbw
  clear hat hbw q0 q1 hgl hgs
  have l0 := blk_cell HQl.out 0 _ rfl
  have l1 := blk_cell HQl.out 1 _ rfl
  have l2 := blk_cell HQl.out 2 _ rfl
  have l3 := blk_cell HQl.out 3 _ rfl
  go_wp2_with fail
  refine (KW.out _ HB0.out).mono ?_
  rintro e w1 ⟨rfl, hb1⟩
  have HB1 := Lib.hid (below_on HB0.out hb1)
  have HQ1 := Lib.hid (blk_keep hb1 HQl.out)
  have HS1 := Lib.hid (blk_keep hb1 HQs.out)
  clear hb1 l0 l1 l2 l3
  go_wp2_with fail
  refine (works_is _).mono ?_
  rintro e w2 ⟨rfl, hb2⟩
  have HB2 := Lib.hid (below_on HB1.out hb2)
  clear hb2
  go_wp2_with fail
  go_ret
  exact ⟨rfl, HB2.out⟩
 ·by_cases h0 : c = 0
  ·subst h0
   have KN : Hid (∀ V, Below w.heap.size w V → Calls Try.prog 15 #[.agg #[L.se.v, L.po.v, L.sg.v, L.rt.v]] V fun e w' => ∃ m M, e = .returned (.tuple #[.pointer (some ⟨m, 0, none⟩), .int .i64 0]) ∧ MachX (fun b => b < V.heap.size) w' m M ∧ M.tb = tbL L ∧ M.pt = pw L.po.l.length - 1 ∧ Below V.heap.size V w') := Lib.hid (fun V hV => new_is L V (hL.below hV) hc)
   rw [slv hn1, slv hn2, slv hn3, slv hn4] at KW KC KN ⊢
   clear hn1 hn2 hn3 hn4 hL hz hc hd
   go_enter Try.func4, Try.ntmps4
   go_upto_region 1 with fail
   refine name_last (os := [.cells #[.slice L.se.a n1 L.se.c, .slice L.po.a n2 L.po.c, .slice L.sg.a n3 L.sg.c, .slice L.rt.a n4 L.rt.c] 27, .cells (stL s).toArray 32]) (w0 := w) rfl ?_
   intro W hat hbw
   obtain ⟨gl, hgl⟩ : ∃ g, g = w.heap.size := ⟨_, rfl⟩
   have q0 := hat 0 _ rfl
   obtain ⟨gs, hgs⟩ : ∃ g, g = gl + 1 := ⟨_, rfl⟩
   have q1 := hat 1 _ rfl
   rw [Nat.add_zero, ← hgl] at q0
   rw [← hgl, ← hgs] at q1
   rw [← hgl, ← hgs]
   have HQl := Lib.hid q0
   have HQs := Lib.hid q1
   have HB0 := Lib.hid hbw
   clear hat hbw q0 q1 hgl hgs
   have l0 := blk_cell HQl.out 0 _ rfl
   have l1 := blk_cell HQl.out 1 _ rfl
   have l2 := blk_cell HQl.out 2 _ rfl
   have l3 := blk_cell HQl.out 3 _ rfl
   go_wp2_with fail
   refine (KW.out _ HB0.out).mono ?_
   rintro e w1 ⟨rfl, hb1⟩
   have HB1 := Lib.hid (below_on HB0.out hb1)
   have HQ1 := Lib.hid (blk_keep hb1 HQl.out)
   have HS1 := Lib.hid (blk_keep hb1 HQs.out)
   clear hb1 l0 l1 l2 l3
   have l0 := blk_cell HQ1.out 0 _ rfl
   have l1 := blk_cell HQ1.out 1 _ rfl
   have l2 := blk_cell HQ1.out 2 _ rfl
   have l3 := blk_cell HQ1.out 3 _ rfl
   go_wp2_with fail
   refine (KN.out _ HB1.out).mono ?_
   rintro e w2 ⟨m, M, rfl, _, _, _, hb2⟩
   have HB2 := Lib.hid (below_on HB1.out hb2)
   have HQ2 := Lib.hid (blk_keep hb2 HQ1.out)
   have HS2 := Lib.hid (blk_keep hb2 HS1.out)
   clear hb2 l0 l1 l2 l3
   have l0 := blk_cell HQ2.out 0 _ rfl
   have l1 := blk_cell HQ2.out 1 _ rfl
   have l2 := blk_cell HQ2.out 2 _ rfl
   have l3 := blk_cell HQ2.out 3 _ rfl
   go_wp2_with fail
   refine (KC.out _ HB2.out).mono ?_
   rintro e w3 ⟨rfl, hb3⟩
   have HB3 := Lib.hid (below_on HB2.out hb3)
   have HM3 := Lib.hid (below_on HB2.out hb3)
   have HT93 := Lib.hid (blk_keep hb3 HS2.out)
   clear hb3 l0 l1 l2 l3
   have HLD := Lib.hid (load_st HT93.out)
   go_wp2_with (first
    | ((with_reducible refine wpList_load_is (op := ⟨some 28, _, _, _, _, _⟩) rfl 32 _ rfl _ _ ?_ HLD.out ?_); (· rfl)))
   refine (step_nil0 s _).mono ?_
   rintro e w4 ⟨rfl, hb4⟩
   have HB4 := Lib.hid (below_on HB3.out hb4)
   have HM4 := Lib.hid (below_on HM3.out hb4)
   have HT94 := Lib.hid (blk_keep hb4 HT93.out)
   clear hb4 HLD
   have ha4 := alloc1 w4 (.cells (stL zS).toArray 32) (Below.refl _ _)
   have hb4 := alloc1 (w4.alloc (.cells (stL zS).toArray 32)) (.cells #[.int .u64 0, .int .u32 0] 48) (Below.refl _ _)
   rw [alloc_size] at hb4
   have hc4 := blk_keep (below1 (w4.alloc (.cells (stL zS).toArray 32)) (.cells #[.int .u64 0, .int .u32 0] 48)) ha4
   have hk4 : Below w4.heap.size w4 ((w4.alloc (.cells (stL zS).toArray 32)).alloc (.cells #[.int .u64 0, .int .u32 0] 48)) := below_on (below1 _ _) (below1 _ _)
   obtain ⟨hst, hq9, ho9⟩ := store_st (s' := zS) hc4
   have HST := Lib.hid hst
   have HS4 := Lib.hid hq9
   have HO4 := Lib.hid (Only.keep ho9 (by omega) hb4)
   have HKK4 : Hid (Below w4.heap.size w4 (((w4.alloc (.cells (stL zS).toArray 32)).alloc (.cells #[.int .u64 0, .int .u32 0] 48)).setCells w4.heap.size 0 (stL zS))) := Lib.hid (Only.below hk4 (Nat.le_refl _) hk4.size ho9)
   obtain ⟨V4, hV4⟩ : ∃ V', V' = ((w4.alloc (.cells (stL zS).toArray 32)).alloc (.cells #[.int .u64 0, .int .u32 0] 48)).setCells w4.heap.size 0 (stL zS) := ⟨_, rfl⟩
   rw [← hV4] at HST HS4 HO4 HKK4
   clear ha4 hb4 hc4 hk4 hst hq9 ho9 hV4
   have c0 := blk_cell HO4.out 0 _ rfl
   have c1 := blk_cell HO4.out 1 _ rfl
   have f0 := blk_free HO4.out 0
   have f1 := blk_free HO4.out 1
   have hl := blk_lt HO4.out
   go_upto_region 7 with (first
    | rw [zero_st]
    | ((with_reducible refine wpList_store_is (op := ⟨none, .store 32 _ _, _, _, _, _⟩) rfl 32 _ _ rfl _ _ ?_ ?_ _ HST.out ?_); (· rfl); (· rfl)))
   clear c0 c1 f0 f1 hl
   refine name_any ?_
   intro X4 hX4
   have ho : Only (w4.heap.size + 1) V4 X4 := by rw [hX4]; exact ((Only.refl (w4.heap.size + 1) V4).setCell rfl _).setCell rfl _
   have HOx4 : Hid (X4.heap[w4.heap.size + 1]? = some (.cells #[.int .u64 0, .int .u32 0] 48)) := Lib.hid (by rw [hX4]; exact blk_set (blk_set HO4.out 0 _) 1 _)
   have HSx4 := Lib.hid (Only.keep ho (by omega) HS4.out)
   have HK4 : Hid (Below w4.heap.size w4 X4) := Lib.hid (Only.below HKK4.out (by omega) HKK4.out.size ho)
   have HBx4 := Lib.hid (below_on HB4.out HK4.out)
   have HMx4 := Lib.hid (below_on HM4.out HK4.out)
   have HT9x4 := Lib.hid (blk_keep HK4.out HT94.out)
   obtain ⟨ga4, hga4⟩ : ∃ g, g = w4.heap.size := ⟨_, rfl⟩
   obtain ⟨gb4, hgb4⟩ : ∃ g, g = ga4 + 1 := ⟨_, rfl⟩
   rw [← hga4] at HSx4 HOx4 ⊢
   rw [← hgb4] at HOx4 ⊢
   have HT4x4 := HSx4
   have HU4x4 := HOx4
   clear HSx4 HOx4
   clear hX4 ho hga4 hgb4 HST HS4 HO4 HKK4 HK4 HB4 HM4 HT94
   have HLS := Lib.hid (load_st HT9x4.out)
   have HLA := Lib.hid (load_st HT4x4.out)
   have ez := eq_zz
   have eo := eq_oo
   go_wp2_with (first
    | ((with_reducible refine wpList_load_if (op := ⟨some 45, _, _, _, _, _⟩) ?_ 32 _ rfl _ _ ?_ HLS.out ?_); (· rfl); (· rfl)))
   refine (tidy_nil s _).mono ?_
   rintro e w5 ⟨rfl, hb5⟩
   have HB5 := Lib.hid (below_on HBx4.out hb5)
   have HT55 := Lib.hid (blk_keep hb5 HT9x4.out)
   have HT65 := Lib.hid (blk_keep hb5 HT4x4.out)
   have HU65 := Lib.hid (blk_keep hb5 HU4x4.out)
   clear hb5 HLS HLA
   have HLS := Lib.hid (load_st HT55.out)
   have HLA := Lib.hid (load_st HT65.out)
   have u0 := blk_cell HU65.out 0 _ rfl
   have u1 := blk_cell HU65.out 1 _ rfl
   go_wp2_with (first
    | ((with_reducible refine wpList_build_if (op := ⟨some 47, _, _, _, _, _⟩) ?_ 32 rfl _ built_zero ?_); (· rfl))
    | ((with_reducible refine wpList_load_if (op := ⟨some 51, _, _, _, _, _⟩) ?_ 32 _ rfl _ _ ?_ HLA.out ?_); (· rfl); (· rfl))
    | ((with_reducible refine wpList_build_if (op := ⟨some 52, _, _, _, _, _⟩) ?_ 32 rfl _ built_zero ?_); (· rfl))
    | ((with_reducible refine wpList_load_if (op := ⟨some 62, _, _, _, _, _⟩) ?_ 32 _ rfl _ _ ?_ HLS.out ?_); (· rfl); (· rfl)))
   refine (mright_nil s _).mono ?_
   rintro e w6 ⟨rfl, hb6⟩
   have HB6 := Lib.hid (below_on HB5.out hb6)
   clear hb6 HLS HLA u0 u1
   go_wp2_with fail
   refine (works_is _).mono ?_
   rintro e w7 ⟨rfl, hb7⟩
   have HB7 := Lib.hid (below_on HB6.out hb7)
   clear hb7
   go_wp2_with fail
   go_ret
   exact ⟨rfl, HB7.out⟩
  ·have KN : Hid (∀ V, Below w.heap.size w V → Calls Try.prog 15 #[.agg #[L.se.v, L.po.v, L.sg.v, L.rt.v]] V fun e w' => e = .returned (.tuple #[.pointer none, .int .i64 c]) ∧ Below V.heap.size V w') := Lib.hid (fun V hV => new_no L c V (hL.below hV) hc h0)
   have cn : (c != 0) = true := by rw [bne_iff_ne]; exact h0
   rw [slv hn1, slv hn2, slv hn3, slv hn4] at KW KC KN ⊢
   clear hn1 hn2 hn3 hn4 hL hz hc hd h0
   go_enter Try.func4, Try.ntmps4
   go_upto_region 1 with fail
   refine name_last (os := [.cells #[.slice L.se.a n1 L.se.c, .slice L.po.a n2 L.po.c, .slice L.sg.a n3 L.sg.c, .slice L.rt.a n4 L.rt.c] 27, .cells (stL s).toArray 32]) (w0 := w) rfl ?_
   intro W hat hbw
   obtain ⟨gl, hgl⟩ : ∃ g, g = w.heap.size := ⟨_, rfl⟩
   have q0 := hat 0 _ rfl
   obtain ⟨gs, hgs⟩ : ∃ g, g = gl + 1 := ⟨_, rfl⟩
   have q1 := hat 1 _ rfl
   rw [Nat.add_zero, ← hgl] at q0
   rw [← hgl, ← hgs] at q1
   rw [← hgl, ← hgs]
   have HQl := Lib.hid q0
   have HQs := Lib.hid q1
   have HB0 := Lib.hid hbw
   clear hat hbw q0 q1 hgl hgs
   have l0 := blk_cell HQl.out 0 _ rfl
   have l1 := blk_cell HQl.out 1 _ rfl
   have l2 := blk_cell HQl.out 2 _ rfl
   have l3 := blk_cell HQl.out 3 _ rfl
   go_wp2_with fail
   refine (KW.out _ HB0.out).mono ?_
   rintro e w1 ⟨rfl, hb1⟩
   have HB1 := Lib.hid (below_on HB0.out hb1)
   have HQ1 := Lib.hid (blk_keep hb1 HQl.out)
   have HS1 := Lib.hid (blk_keep hb1 HQs.out)
   clear hb1 l0 l1 l2 l3
   have l0 := blk_cell HQ1.out 0 _ rfl
   have l1 := blk_cell HQ1.out 1 _ rfl
   have l2 := blk_cell HQ1.out 2 _ rfl
   have l3 := blk_cell HQ1.out 3 _ rfl
   go_wp2_with fail
   refine (KN.out _ HB1.out).mono ?_
   rintro e w2 ⟨rfl, hb2⟩
   have HB2 := Lib.hid (below_on HB1.out hb2)
   have HQ2 := Lib.hid (blk_keep hb2 HQ1.out)
   have HS2 := Lib.hid (blk_keep hb2 HS1.out)
   clear hb2 l0 l1 l2 l3
   have l0 := blk_cell HQ2.out 0 _ rfl
   have l1 := blk_cell HQ2.out 1 _ rfl
   have l2 := blk_cell HQ2.out 2 _ rfl
   have l3 := blk_cell HQ2.out 3 _ rfl
   go_wp2_with fail
   refine (KC.out _ HB2.out).mono ?_
   rintro e w3 ⟨rfl, hb3⟩
   have HB3 := Lib.hid (below_on HB2.out hb3)
   have HM3 := Lib.hid (below_on HB2.out hb3)
   have HT93 := Lib.hid (blk_keep hb3 HS2.out)
   clear hb3 l0 l1 l2 l3
   have HLD := Lib.hid (load_st HT93.out)
   go_wp2_with (first
    | ((with_reducible refine wpList_load_is (op := ⟨some 28, _, _, _, _, _⟩) rfl 32 _ rfl _ _ ?_ HLD.out ?_); (· rfl)))
   refine (step_nil0 s _).mono ?_
   rintro e w4 ⟨rfl, hb4⟩
   have HB4 := Lib.hid (below_on HB3.out hb4)
   have HM4 := Lib.hid (below_on HM3.out hb4)
   have HT94 := Lib.hid (blk_keep hb4 HT93.out)
   clear hb4 HLD
   have ha4 := alloc1 w4 (.cells (stL zS).toArray 32) (Below.refl _ _)
   have hb4 := alloc1 (w4.alloc (.cells (stL zS).toArray 32)) (.cells #[.int .u64 0, .int .u32 0] 48) (Below.refl _ _)
   rw [alloc_size] at hb4
   have hc4 := blk_keep (below1 (w4.alloc (.cells (stL zS).toArray 32)) (.cells #[.int .u64 0, .int .u32 0] 48)) ha4
   have hk4 : Below w4.heap.size w4 ((w4.alloc (.cells (stL zS).toArray 32)).alloc (.cells #[.int .u64 0, .int .u32 0] 48)) := below_on (below1 _ _) (below1 _ _)
   obtain ⟨hst, hq9, ho9⟩ := store_st (s' := zS) hc4
   have HST := Lib.hid hst
   have HS4 := Lib.hid hq9
   have HO4 := Lib.hid (Only.keep ho9 (by omega) hb4)
   have HKK4 : Hid (Below w4.heap.size w4 (((w4.alloc (.cells (stL zS).toArray 32)).alloc (.cells #[.int .u64 0, .int .u32 0] 48)).setCells w4.heap.size 0 (stL zS))) := Lib.hid (Only.below hk4 (Nat.le_refl _) hk4.size ho9)
   obtain ⟨V4, hV4⟩ : ∃ V', V' = ((w4.alloc (.cells (stL zS).toArray 32)).alloc (.cells #[.int .u64 0, .int .u32 0] 48)).setCells w4.heap.size 0 (stL zS) := ⟨_, rfl⟩
   rw [← hV4] at HST HS4 HO4 HKK4
   clear ha4 hb4 hc4 hk4 hst hq9 ho9 hV4
   have c0 := blk_cell HO4.out 0 _ rfl
   have c1 := blk_cell HO4.out 1 _ rfl
   have f0 := blk_free HO4.out 0
   have f1 := blk_free HO4.out 1
   have hl := blk_lt HO4.out
   go_upto_region 7 with (first
    | rw [zero_st]
    | ((with_reducible refine wpList_store_is (op := ⟨none, .store 32 _ _, _, _, _, _⟩) rfl 32 _ _ rfl _ _ ?_ ?_ _ HST.out ?_); (· rfl); (· rfl)))
   clear c0 c1 f0 f1 hl
   refine name_any ?_
   intro X4 hX4
   have ho : Only (w4.heap.size + 1) V4 X4 := by rw [hX4]; exact ((Only.refl (w4.heap.size + 1) V4).setCell rfl _).setCell rfl _
   have HOx4 : Hid (X4.heap[w4.heap.size + 1]? = some (.cells #[.int .u64 0, .int .u32 0] 48)) := Lib.hid (by rw [hX4]; exact blk_set (blk_set HO4.out 0 _) 1 _)
   have HSx4 := Lib.hid (Only.keep ho (by omega) HS4.out)
   have HK4 : Hid (Below w4.heap.size w4 X4) := Lib.hid (Only.below HKK4.out (by omega) HKK4.out.size ho)
   have HBx4 := Lib.hid (below_on HB4.out HK4.out)
   have HMx4 := Lib.hid (below_on HM4.out HK4.out)
   have HT9x4 := Lib.hid (blk_keep HK4.out HT94.out)
   obtain ⟨ga4, hga4⟩ : ∃ g, g = w4.heap.size := ⟨_, rfl⟩
   obtain ⟨gb4, hgb4⟩ : ∃ g, g = ga4 + 1 := ⟨_, rfl⟩
   rw [← hga4] at HSx4 HOx4 ⊢
   rw [← hgb4] at HOx4 ⊢
   have HT4x4 := HSx4
   have HU4x4 := HOx4
   clear HSx4 HOx4
   clear hX4 ho hga4 hgb4 HST HS4 HO4 HKK4 HK4 HB4 HM4 HT94
   have HLS := Lib.hid (load_st HT9x4.out)
   have HLA := Lib.hid (load_st HT4x4.out)
   have ez := eq_zz
   have eo := eq_oo
   go_wp2_with (first
    | ((with_reducible refine wpList_load_if (op := ⟨some 45, _, _, _, _, _⟩) ?_ 32 _ rfl _ _ ?_ HLS.out ?_); (· rfl); (· rfl)))
   refine (tidy_nil s _).mono ?_
   rintro e w5 ⟨rfl, hb5⟩
   have HB5 := Lib.hid (below_on HBx4.out hb5)
   have HT55 := Lib.hid (blk_keep hb5 HT9x4.out)
   have HT65 := Lib.hid (blk_keep hb5 HT4x4.out)
   have HU65 := Lib.hid (blk_keep hb5 HU4x4.out)
   clear hb5 HLS HLA
   have HLS := Lib.hid (load_st HT55.out)
   have HLA := Lib.hid (load_st HT65.out)
   have u0 := blk_cell HU65.out 0 _ rfl
   have u1 := blk_cell HU65.out 1 _ rfl
   go_wp2_with (first
    | ((with_reducible refine wpList_build_if (op := ⟨some 47, _, _, _, _, _⟩) ?_ 32 rfl _ built_zero ?_); (· rfl))
    | ((with_reducible refine wpList_load_if (op := ⟨some 51, _, _, _, _, _⟩) ?_ 32 _ rfl _ _ ?_ HLA.out ?_); (· rfl); (· rfl))
    | ((with_reducible refine wpList_build_if (op := ⟨some 52, _, _, _, _, _⟩) ?_ 32 rfl _ built_zero ?_); (· rfl))
    | ((with_reducible refine wpList_load_if (op := ⟨some 62, _, _, _, _, _⟩) ?_ 32 _ rfl _ _ ?_ HLS.out ?_); (· rfl); (· rfl)))
   refine (mright_nil s _).mono ?_
   rintro e w6 ⟨rfl, hb6⟩
   have HB6 := Lib.hid (below_on HB5.out hb6)
   clear hb6 HLS HLA u0 u1
   go_wp2_with fail
   refine (works_is _).mono ?_
   rintro e w7 ⟨rfl, hb7⟩
   have HB7 := Lib.hid (below_on HB6.out hb7)
   clear hb7
   go_wp2_with fail
   go_ret
   exact ⟨rfl, HB7.out⟩
theorem walk_IlxaNew (v0 v1 : Array Value) (w : World) (_s0 : v0.size = Try.prog.cellsOf 27) (w0 : Rd Try.prog w 27 v0.toList) (_s1 : v1.size = Try.prog.cellsOf 32) (w1 : Rd Try.prog w 32 v1.toList) :
 Calls Try.prog 4 #[.agg v0, .agg v1] w fun e w' => e = .returned (.bool true) ∧ Below w.heap.size w w' := by
 obtain ⟨L, hv, hL⟩ := lay_of w0
 obtain rfl : v0 = #[L.se.v, L.po.v, L.sg.v, L.rt.v] := by apply Array.toList_inj.1; rw [hv]
 obtain ⟨s, rfl, _⟩ := state_rd w1
 exact ilxaNew_is L s w hL
end Go.Proofs.Ytjienmjpfklgeaa
