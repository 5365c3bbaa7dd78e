/-
 Layer 10: works.
-/
import Derived.Test.YtjienmjpfklgeaaIyC
namespace Go.Proofs.Ytjienmjpfklgeaa
open Go.RowKit
set_option maxRecDepth 100000
attribute [local irreducible] Sl.v hasBit pw withBit woBit cyL stL stV tmL freeS ndBad maySet ptL setS mayCan canS canD nedS flipB mayMov movS comG relS rouS proS tidyS comsG rousS prosS nextG outS lnOk rightK rgtS eqS Mc.tb upd mayS checkS sideN
attribute [local irreducible] tbL rwL secOf cofL Rt.tr Rt.nd conflictS pairS formedS
attribute [local irreducible] mskS
attribute [local irreducible] wkT sA sB sC zS

set_option maxHeartbeats 8000000 in
theorem works_is (w : World) : Calls Try.prog 8 #[] w fun e w' => e = .returned (.bool true) ∧ Below w.heap.size w w' := by
 go_enter Try.func8, Try.ntmps8
 go_upto_region 2 with fail
 refine name_last (os := [_, _, _, _, _, _, _]) (w0 := w) rfl ?_
 intro W hat hbw
 obtain ⟨b, hb⟩ : ∃ b, b = w.heap.size := ⟨_, rfl⟩
 have q0 := hat 0 _ rfl
 have q1 := hat 1 _ rfl
 have q2 := hat 2 _ rfl
 have q3 := hat 3 _ rfl
 have q4 := hat 4 _ rfl
 have q5 := hat 5 _ rfl
 have q6 := hat 6 _ rfl
 rw [Nat.add_zero, ← hb] at q0
 rw [← hb] at q1 q2 q3 q4 q5 q6
 rw [← hb]
 clear hat
 have HL : Hid (LayAt W (wkL b)) := Lib.hid (by
  exact wk_at q0 q1 q2 q3 q4 q5)
 have q6' : W.heap[b + 1 + 1 + 1 + 1 + 1 + 1]? = some (.cells #[.slice (some ⟨b, 0, none⟩) 3 3, .slice (some ⟨b + 1, 0, none⟩) 1 1, .slice (some ⟨b + 1 + 1, 0, none⟩) 1 1, .slice (some ⟨b + 1 + 1 + 1 + 1 + 1, 0, none⟩) 1 1] 27) := q6
 obtain ⟨gl, hgl⟩ : ∃ g, g = b + 1 + 1 + 1 + 1 + 1 + 1 := ⟨_, rfl⟩
 rw [← hgl] at q6' ⊢
 have HQL := Lib.hid q6'
 have HB := Lib.hid hbw
 clear q0 q1 q2 q3 q4 q5 q6 q6' hb hgl hbw
 obtain ⟨l0, l1, l2, l3⟩ := k_box HQL.out
 go_wp2_with fail
 refine (wk_new b W HL.out).mono ?_
 rintro e w1 ⟨m, M, rfl, hM, ht, hp, hto, hb⟩
 have HM := Lib.hid (mach_low hM)
 have HT := Lib.hid ht
 have HTB := Lib.hid hto
 have HP := Lib.hid hp
 have HB1 := Lib.hid (below_on HB.out hb)
 clear hb l0 l1 l2 l3 hM ht hp hto
 go_upto_region 4 with fail
 have hbn := below1 w1 (.cells #[.int .u8 1, .int .i64 0] 74)
 have hqn := alloc1 w1 (.cells #[.int .u8 1, .int .i64 0] 74) (Below.refl _ _)
 obtain ⟨V3, hV3⟩ : ∃ V, V = w1.alloc (.cells #[.int .u8 1, .int .i64 0] 74) := ⟨_, rfl⟩
 rw [← hV3] at hbn hqn ⊢
 obtain ⟨gc, hgc⟩ : ∃ g, g = w1.heap.size := ⟨_, rfl⟩
 rw [← hgc] at hqn ⊢
 have HBc := Lib.hid hbn
 have HQC := Lib.hid hqn
 clear hbn hqn hV3 hgc
 go_wp2_with (first
  | ((with_reducible refine wpList_build_is (op := ⟨some 37, _, _, _, _, _⟩) rfl 32 rfl _ built_zero ?_)))
 have K1 : Hid (∀ V, Below w1.heap.size w1 V → V.heap[gc]? = some (.cells #[.int .u8 1, .int .i64 0] 74) → Calls Try.prog 11 #[.pointer (some ⟨m, 0, none⟩), .agg (stL zS).toArray, .agg #[.int .u64 0, .int .u32 1, .int .u32 0, .slice (some ⟨gc, 0, none⟩) 1 1]] V fun e w' => e = .returned (.tuple #[.agg (stL sA).toArray, .agg #[.int .u64 1, .int .u32 0]]) ∧ Below V.heap.size V w') := Lib.hid (fun V hV hq => wstep HM.out hV HTB.out HP.out HT.out zS sA ok_Z 0 1 1 (by omega) (by omega) (some ⟨gc, 0, none⟩) 1 1 [(1, 0)] (cmd_at (kd := 1) (nn := 0) hq (by omega) (by omega) (by omega)) rfl (by omega) (by omega) wk_1)
 have K2 : Hid (∀ V, Below w1.heap.size w1 V → V.heap[gc]? = some (.cells #[.int .u8 1, .int .i64 0] 74) → Calls Try.prog 11 #[.pointer (some ⟨m, 0, none⟩), .agg (stL zS).toArray, .agg #[.int .u64 0, .int .u32 0, .int .u32 0, .slice (some ⟨gc, 0, none⟩) 1 1]] V fun e w' => e = .returned (.tuple #[.agg (stL sA).toArray, .agg #[.int .u64 0, .int .u32 0]]) ∧ Below V.heap.size V w') := Lib.hid (fun V hV hq => wstep HM.out hV HTB.out HP.out HT.out zS sA ok_Z 0 0 0 (by omega) (by omega) (some ⟨gc, 0, none⟩) 1 1 [(1, 0)] (cmd_at (kd := 1) (nn := 0) hq (by omega) (by omega) (by omega)) rfl (by omega) (by omega) wk_2)
 have K3 : Hid (∀ V, Below w1.heap.size w1 V → V.heap[gc]? = some (.cells #[.int .u8 1, .int .i64 0] 74) → Calls Try.prog 11 #[.pointer (some ⟨m, 0, none⟩), .agg (stL zS).toArray, .agg #[.int .u64 4, .int .u32 1, .int .u32 0, .slice (some ⟨gc, 0, none⟩) 1 1]] V fun e w' => e = .returned (.tuple #[.agg (stL zS).toArray, .agg #[.int .u64 0, .int .u32 0]]) ∧ Below V.heap.size V w') := Lib.hid (fun V hV hq => wstep HM.out hV HTB.out HP.out HT.out zS zS ok_Z 4 1 0 (by omega) (by omega) (some ⟨gc, 0, none⟩) 1 1 [(1, 0)] (cmd_at (kd := 1) (nn := 0) hq (by omega) (by omega) (by omega)) rfl (by omega) (by omega) wk_3)
 have K4 : Hid (∀ V, Below w1.heap.size w1 V → Calls Try.prog 11 #[.pointer (some ⟨m, 0, none⟩), .agg (stL sA).toArray, .agg #[.int .u64 2, .int .u32 1, .int .u32 0, .slice none 0 0]] V fun e w' => e = .returned (.tuple #[.agg (stL sB).toArray, .agg #[.int .u64 0, .int .u32 0]]) ∧ Below V.heap.size V w') := Lib.hid (fun V hV => wstep HM.out hV HTB.out HP.out HT.out sA sB ok_A 2 1 0 (by omega) (by omega) none 0 0 [] (cmds_nil V) rfl (by omega) (by omega) wk_4)
 have K5 : Hid (∀ V, Below w1.heap.size w1 V → Calls Try.prog 11 #[.pointer (some ⟨m, 0, none⟩), .agg (stL sB).toArray, .agg #[.int .u64 0, .int .u32 1, .int .u32 0, .slice none 0 0]] V fun e w' => e = .returned (.tuple #[.agg (stL zS).toArray, .agg #[.int .u64 0, .int .u32 0]]) ∧ Below V.heap.size V w') := Lib.hid (fun V hV => wstep HM.out hV HTB.out HP.out HT.out sB zS ok_B 0 1 0 (by omega) (by omega) none 0 0 [] (cmds_nil V) rfl (by omega) (by omega) wk_5)
 have K6 : Hid (∀ (V : World) (g : Nat), Below w1.heap.size w1 V → V.heap[g]? = some (.cells #[.int .u8 2, .int .i64 0] 74) → Calls Try.prog 11 #[.pointer (some ⟨m, 0, none⟩), .agg (stL sA).toArray, .agg #[.int .u64 1, .int .u32 1, .int .u32 0, .slice (some ⟨g, 0, none⟩) 1 1]] V fun e w' => e = .returned (.tuple #[.agg (stL sC).toArray, .agg #[.int .u64 0, .int .u32 0]]) ∧ Below V.heap.size V w') := Lib.hid (fun V g hV hq => wstep HM.out hV HTB.out HP.out HT.out sA sC ok_A 1 1 0 (by omega) (by omega) (some ⟨g, 0, none⟩) 1 1 [(2, 0)] (cmd_at (kd := 2) (nn := 0) hq (by omega) (by omega) (by omega)) rfl (by omega) (by omega) wk_6)
 have HMc := HBc
 have HBc := Lib.hid (below_on HB1.out HMc.out)
 have HQCc := HQC
 clear HQC
 refine (K1.out _ HMc.out HQCc.out).mono ?_
 rintro e w2 ⟨rfl, hb⟩
 have HB2 := Lib.hid (below_on HBc.out hb)
 have HM2 := Lib.hid (below_on HMc.out hb)
 have HQC2 := Lib.hid (blk_keep hb HQCc.out)
 clear hb K1
 have ha2 := alloc1 w2 (.cells (stL zS).toArray 32) (Below.refl _ _)
 have hb2 := alloc1 (w2.alloc (.cells (stL zS).toArray 32)) (.cells #[.int .u64 0, .int .u32 0] 48) (Below.refl _ _)
 rw [alloc_size] at hb2
 have hc2 := blk_keep (below1 (w2.alloc (.cells (stL zS).toArray 32)) (.cells #[.int .u64 0, .int .u32 0] 48)) ha2
 have hk2 : Below w2.heap.size w2 ((w2.alloc (.cells (stL zS).toArray 32)).alloc (.cells #[.int .u64 0, .int .u32 0] 48)) := below_on (below1 _ _) (below1 _ _)
 obtain ⟨hst, hq9, ho9⟩ := store_st (s' := sA) hc2
 have HST := Lib.hid hst
 have HS2 := Lib.hid hq9
 have HO2 := Lib.hid (Only.keep ho9 (by omega) hb2)
 have HKK2 : Hid (Below w2.heap.size w2 (((w2.alloc (.cells (stL zS).toArray 32)).alloc (.cells #[.int .u64 0, .int .u32 0] 48)).setCells w2.heap.size 0 (stL sA))) := Lib.hid (Only.below hk2 (Nat.le_refl _) hk2.size ho9)
 obtain ⟨V2, hV2⟩ : ∃ V', V' = ((w2.alloc (.cells (stL zS).toArray 32)).alloc (.cells #[.int .u64 0, .int .u32 0] 48)).setCells w2.heap.size 0 (stL sA) := ⟨_, rfl⟩
 rw [← hV2] at HST HS2 HO2 HKK2
 clear ha2 hb2 hc2 hk2 hst hq9 ho9 hV2
 have c0 := blk_cell HO2.out 0 _ rfl
 have c1 := blk_cell HO2.out 1 _ rfl
 have f0 := blk_free HO2.out 0
 have f1 := blk_free HO2.out 1
 have hl := blk_lt HO2.out
 go_upto_region 5 with (first
  | rw [zero_st]
  | ((with_reducible refine wpList_store_is (op := ⟨none, .store 32 _ _, _, _, _, _⟩) rfl 32 _ _ rfl _ _ ?_ ?_ _ HST.out ?_); (· rfl); (· rfl)))
 clear c0 c1 f0 f1 hl
 refine name_any ?_
 intro X2 hX2
 have ho : Only (w2.heap.size + 1) V2 X2 := by rw [hX2]; exact ((Only.refl (w2.heap.size + 1) V2).setCell rfl _).setCell rfl _
 have HOx2 : Hid (X2.heap[w2.heap.size + 1]? = some (.cells #[.int .u64 1, .int .u32 0] 48)) := Lib.hid (by rw [hX2]; exact blk_set (blk_set HO2.out 0 _) 1 _)
 have HSx2 := Lib.hid (Only.keep ho (by omega) HS2.out)
 have HK2 : Hid (Below w2.heap.size w2 X2) := Lib.hid (Only.below HKK2.out (by omega) HKK2.out.size ho)
 have HBx2 := Lib.hid (below_on HB2.out HK2.out)
 have HMx2 := Lib.hid (below_on HM2.out HK2.out)
 have HQCx2 := Lib.hid (blk_keep HK2.out HQC2.out)
 obtain ⟨ga2, hga2⟩ : ∃ g, g = w2.heap.size := ⟨_, rfl⟩
 obtain ⟨gb2, hgb2⟩ : ∃ g, g = ga2 + 1 := ⟨_, rfl⟩
 rw [← hga2] at HSx2 HOx2 ⊢
 rw [← hgb2] at HOx2 ⊢
 have HT2x2 := HSx2
 have HU2x2 := HOx2
 clear HSx2 HOx2
 clear hX2 ho hga2 hgb2 HST HS2 HO2 HKK2 HK2 HB2 HM2 HQC2
 go_wp2_with (first
  | ((with_reducible refine wpList_build_is (op := ⟨some 45, _, _, _, _, _⟩) rfl 32 rfl _ built_zero ?_)))
 refine (K2.out _ HMx2.out HQCx2.out).mono ?_
 rintro e w3 ⟨rfl, hb⟩
 have HB3 := Lib.hid (below_on HBx2.out hb)
 have HM3 := Lib.hid (below_on HMx2.out hb)
 have HQC3 := Lib.hid (blk_keep hb HQCx2.out)
 have HT23 := Lib.hid (blk_keep hb HT2x2.out)
 have HU23 := Lib.hid (blk_keep hb HU2x2.out)
 clear hb K2
 have ha3 := alloc1 w3 (.cells (stL zS).toArray 32) (Below.refl _ _)
 have hb3 := alloc1 (w3.alloc (.cells (stL zS).toArray 32)) (.cells #[.int .u64 0, .int .u32 0] 48) (Below.refl _ _)
 rw [alloc_size] at hb3
 have hc3 := blk_keep (below1 (w3.alloc (.cells (stL zS).toArray 32)) (.cells #[.int .u64 0, .int .u32 0] 48)) ha3
 have hk3 : Below w3.heap.size w3 ((w3.alloc (.cells (stL zS).toArray 32)).alloc (.cells #[.int .u64 0, .int .u32 0] 48)) := below_on (below1 _ _) (below1 _ _)
 obtain ⟨hst, hq9, ho9⟩ := store_st (s' := sA) hc3
 have HST := Lib.hid hst
 have HS3 := Lib.hid hq9
 have HO3 := Lib.hid (Only.keep ho9 (by omega) hb3)
 have HKK3 : Hid (Below w3.heap.size w3 (((w3.alloc (.cells (stL zS).toArray 32)).alloc (.cells #[.int .u64 0, .int .u32 0] 48)).setCells w3.heap.size 0 (stL sA))) := Lib.hid (Only.below hk3 (Nat.le_refl _) hk3.size ho9)
 obtain ⟨V3, hV3⟩ : ∃ V', V' = ((w3.alloc (.cells (stL zS).toArray 32)).alloc (.cells #[.int .u64 0, .int .u32 0] 48)).setCells w3.heap.size 0 (stL sA) := ⟨_, rfl⟩
 rw [← hV3] at HST HS3 HO3 HKK3
 clear ha3 hb3 hc3 hk3 hst hq9 ho9 hV3
 have c0 := blk_cell HO3.out 0 _ rfl
 have c1 := blk_cell HO3.out 1 _ rfl
 have f0 := blk_free HO3.out 0
 have f1 := blk_free HO3.out 1
 have hl := blk_lt HO3.out
 go_upto_region 6 with (first
  | rw [zero_st]
  | ((with_reducible refine wpList_store_is (op := ⟨none, .store 32 _ _, _, _, _, _⟩) rfl 32 _ _ rfl _ _ ?_ ?_ _ HST.out ?_); (· rfl); (· rfl)))
 clear c0 c1 f0 f1 hl
 refine name_any ?_
 intro X3 hX3
 have ho : Only (w3.heap.size + 1) V3 X3 := by rw [hX3]; exact ((Only.refl (w3.heap.size + 1) V3).setCell rfl _).setCell rfl _
 have HOx3 : Hid (X3.heap[w3.heap.size + 1]? = some (.cells #[.int .u64 0, .int .u32 0] 48)) := Lib.hid (by rw [hX3]; exact blk_set (blk_set HO3.out 0 _) 1 _)
 have HSx3 := Lib.hid (Only.keep ho (by omega) HS3.out)
 have HK3 : Hid (Below w3.heap.size w3 X3) := Lib.hid (Only.below HKK3.out (by omega) HKK3.out.size ho)
 have HBx3 := Lib.hid (below_on HB3.out HK3.out)
 have HMx3 := Lib.hid (below_on HM3.out HK3.out)
 have HQCx3 := Lib.hid (blk_keep HK3.out HQC3.out)
 have HT2x3 := Lib.hid (blk_keep HK3.out HT23.out)
 have HU2x3 := Lib.hid (blk_keep HK3.out HU23.out)
 obtain ⟨ga3, hga3⟩ : ∃ g, g = w3.heap.size := ⟨_, rfl⟩
 obtain ⟨gb3, hgb3⟩ : ∃ g, g = ga3 + 1 := ⟨_, rfl⟩
 rw [← hga3] at HSx3 HOx3 ⊢
 rw [← hgb3] at HOx3 ⊢
 have HT3x3 := HSx3
 have HU3x3 := HOx3
 clear HSx3 HOx3
 clear hX3 ho hga3 hgb3 HST HS3 HO3 HKK3 HK3 HB3 HM3 HQC3 HT23 HU23
 go_wp2_with (first
  | ((with_reducible refine wpList_build_is (op := ⟨some 53, _, _, _, _, _⟩) rfl 32 rfl _ built_zero ?_)))
 refine (K3.out _ HMx3.out HQCx3.out).mono ?_
 rintro e w4 ⟨rfl, hb⟩
 have HB4 := Lib.hid (below_on HBx3.out hb)
 have HM4 := Lib.hid (below_on HMx3.out hb)
 have HQC4 := Lib.hid (blk_keep hb HQCx3.out)
 have HT24 := Lib.hid (blk_keep hb HT2x3.out)
 have HU24 := Lib.hid (blk_keep hb HU2x3.out)
 have HU34 := Lib.hid (blk_keep hb HU3x3.out)
 clear hb K3
 have ha4 := alloc1 w4 (.cells (stL zS).toArray 32) (Below.refl _ _)
 have hb4 := alloc1 (w4.alloc (.cells (stL zS).toArray 32)) (.cells #[.int .u64 0, .int .u32 0] 48) (Below.refl _ _)
 rw [alloc_size] at hb4
 have hc4 := blk_keep (below1 (w4.alloc (.cells (stL zS).toArray 32)) (.cells #[.int .u64 0, .int .u32 0] 48)) ha4
 have hk4 : Below w4.heap.size w4 ((w4.alloc (.cells (stL zS).toArray 32)).alloc (.cells #[.int .u64 0, .int .u32 0] 48)) := below_on (below1 _ _) (below1 _ _)
 obtain ⟨hst, hq9, ho9⟩ := store_st (s' := zS) hc4
 have HST := Lib.hid hst
 have HS4 := Lib.hid hq9
 have HO4 := Lib.hid (Only.keep ho9 (by omega) hb4)
 have HKK4 : Hid (Below w4.heap.size w4 (((w4.alloc (.cells (stL zS).toArray 32)).alloc (.cells #[.int .u64 0, .int .u32 0] 48)).setCells w4.heap.size 0 (stL zS))) := Lib.hid (Only.below hk4 (Nat.le_refl _) hk4.size ho9)
 obtain ⟨V4, hV4⟩ : ∃ V', V' = ((w4.alloc (.cells (stL zS).toArray 32)).alloc (.cells #[.int .u64 0, .int .u32 0] 48)).setCells w4.heap.size 0 (stL zS) := ⟨_, rfl⟩
 rw [← hV4] at HST HS4 HO4 HKK4
 clear ha4 hb4 hc4 hk4 hst hq9 ho9 hV4
 have c0 := blk_cell HO4.out 0 _ rfl
 have c1 := blk_cell HO4.out 1 _ rfl
 have f0 := blk_free HO4.out 0
 have f1 := blk_free HO4.out 1
 have hl := blk_lt HO4.out
 go_upto_region 7 with (first
  | rw [zero_st]
  | ((with_reducible refine wpList_store_is (op := ⟨none, .store 32 _ _, _, _, _, _⟩) rfl 32 _ _ rfl _ _ ?_ ?_ _ HST.out ?_); (· rfl); (· rfl)))
 clear c0 c1 f0 f1 hl
 refine name_any ?_
 intro X4 hX4
 have ho : Only (w4.heap.size + 1) V4 X4 := by rw [hX4]; exact ((Only.refl (w4.heap.size + 1) V4).setCell rfl _).setCell rfl _
 have HOx4 : Hid (X4.heap[w4.heap.size + 1]? = some (.cells #[.int .u64 0, .int .u32 0] 48)) := Lib.hid (by rw [hX4]; exact blk_set (blk_set HO4.out 0 _) 1 _)
 have HSx4 := Lib.hid (Only.keep ho (by omega) HS4.out)
 have HK4 : Hid (Below w4.heap.size w4 X4) := Lib.hid (Only.below HKK4.out (by omega) HKK4.out.size ho)
 have HBx4 := Lib.hid (below_on HB4.out HK4.out)
 have HMx4 := Lib.hid (below_on HM4.out HK4.out)
 have HQCx4 := Lib.hid (blk_keep HK4.out HQC4.out)
 have HT2x4 := Lib.hid (blk_keep HK4.out HT24.out)
 have HU2x4 := Lib.hid (blk_keep HK4.out HU24.out)
 have HU3x4 := Lib.hid (blk_keep HK4.out HU34.out)
 obtain ⟨ga4, hga4⟩ : ∃ g, g = w4.heap.size := ⟨_, rfl⟩
 obtain ⟨gb4, hgb4⟩ : ∃ g, g = ga4 + 1 := ⟨_, rfl⟩
 rw [← hga4] at HSx4 HOx4 ⊢
 rw [← hgb4] at HOx4 ⊢
 have HT4x4 := HSx4
 have HU4x4 := HOx4
 clear HSx4 HOx4
 clear hX4 ho hga4 hgb4 HST HS4 HO4 HKK4 HK4 HB4 HM4 HQC4 HT24 HU24 HU34
 have HLD := Lib.hid (load_st HT2x4.out)
 go_wp2_with (first
  | ((with_reducible refine wpList_load_is (op := ⟨some 61, _, _, _, _, _⟩) rfl 32 _ rfl _ _ ?_ HLD.out ?_); (· rfl)))
 refine (K4.out _ HMx4.out).mono ?_
 rintro e w5 ⟨rfl, hb⟩
 have HB5 := Lib.hid (below_on HBx4.out hb)
 have HM5 := Lib.hid (below_on HMx4.out hb)
 have HT25 := Lib.hid (blk_keep hb HT2x4.out)
 have HU25 := Lib.hid (blk_keep hb HU2x4.out)
 have HU35 := Lib.hid (blk_keep hb HU3x4.out)
 have HT45 := Lib.hid (blk_keep hb HT4x4.out)
 have HU45 := Lib.hid (blk_keep hb HU4x4.out)
 clear hb K4
 have ha5 := alloc1 w5 (.cells (stL zS).toArray 32) (Below.refl _ _)
 have hb5 := alloc1 (w5.alloc (.cells (stL zS).toArray 32)) (.cells #[.int .u64 0, .int .u32 0] 48) (Below.refl _ _)
 rw [alloc_size] at hb5
 have hc5 := blk_keep (below1 (w5.alloc (.cells (stL zS).toArray 32)) (.cells #[.int .u64 0, .int .u32 0] 48)) ha5
 have hk5 : Below w5.heap.size w5 ((w5.alloc (.cells (stL zS).toArray 32)).alloc (.cells #[.int .u64 0, .int .u32 0] 48)) := below_on (below1 _ _) (below1 _ _)
 obtain ⟨hst, hq9, ho9⟩ := store_st (s' := sB) hc5
 have HST := Lib.hid hst
 have HS5 := Lib.hid hq9
 have HO5 := Lib.hid (Only.keep ho9 (by omega) hb5)
 have HKK5 : Hid (Below w5.heap.size w5 (((w5.alloc (.cells (stL zS).toArray 32)).alloc (.cells #[.int .u64 0, .int .u32 0] 48)).setCells w5.heap.size 0 (stL sB))) := Lib.hid (Only.below hk5 (Nat.le_refl _) hk5.size ho9)
 obtain ⟨V5, hV5⟩ : ∃ V', V' = ((w5.alloc (.cells (stL zS).toArray 32)).alloc (.cells #[.int .u64 0, .int .u32 0] 48)).setCells w5.heap.size 0 (stL sB) := ⟨_, rfl⟩
 rw [← hV5] at HST HS5 HO5 HKK5
 clear ha5 hb5 hc5 hk5 hst hq9 ho9 hV5
 have c0 := blk_cell HO5.out 0 _ rfl
 have c1 := blk_cell HO5.out 1 _ rfl
 have f0 := blk_free HO5.out 0
 have f1 := blk_free HO5.out 1
 have hl := blk_lt HO5.out
 go_upto_region 8 with (first
  | rw [zero_st]
  | ((with_reducible refine wpList_store_is (op := ⟨none, .store 32 _ _, _, _, _, _⟩) rfl 32 _ _ rfl _ _ ?_ ?_ _ HST.out ?_); (· rfl); (· rfl)))
 clear c0 c1 f0 f1 hl
 refine name_any ?_
 intro X5 hX5
 have ho : Only (w5.heap.size + 1) V5 X5 := by rw [hX5]; exact ((Only.refl (w5.heap.size + 1) V5).setCell rfl _).setCell rfl _
 have HOx5 : Hid (X5.heap[w5.heap.size + 1]? = some (.cells #[.int .u64 0, .int .u32 0] 48)) := Lib.hid (by rw [hX5]; exact blk_set (blk_set HO5.out 0 _) 1 _)
 have HSx5 := Lib.hid (Only.keep ho (by omega) HS5.out)
 have HK5 : Hid (Below w5.heap.size w5 X5) := Lib.hid (Only.below HKK5.out (by omega) HKK5.out.size ho)
 have HBx5 := Lib.hid (below_on HB5.out HK5.out)
 have HMx5 := Lib.hid (below_on HM5.out HK5.out)
 have HT2x5 := Lib.hid (blk_keep HK5.out HT25.out)
 have HU2x5 := Lib.hid (blk_keep HK5.out HU25.out)
 have HU3x5 := Lib.hid (blk_keep HK5.out HU35.out)
 have HT4x5 := Lib.hid (blk_keep HK5.out HT45.out)
 have HU4x5 := Lib.hid (blk_keep HK5.out HU45.out)
 obtain ⟨ga5, hga5⟩ : ∃ g, g = w5.heap.size := ⟨_, rfl⟩
 obtain ⟨gb5, hgb5⟩ : ∃ g, g = ga5 + 1 := ⟨_, rfl⟩
 rw [← hga5] at HSx5 HOx5 ⊢
 rw [← hgb5] at HOx5 ⊢
 have HT5x5 := HSx5
 have HU5x5 := HOx5
 clear HSx5 HOx5
 clear hX5 ho hga5 hgb5 HST HS5 HO5 HKK5 HK5 HB5 HM5 HT25 HU25 HU35 HT45 HU45
 clear HLD
 have HLD := Lib.hid (load_st HT5x5.out)
 go_wp2_with (first
  | ((with_reducible refine wpList_load_is (op := ⟨some 68, _, _, _, _, _⟩) rfl 32 _ rfl _ _ ?_ HLD.out ?_); (· rfl)))
 refine (K5.out _ HMx5.out).mono ?_
 rintro e w6 ⟨rfl, hb⟩
 have HB6 := Lib.hid (below_on HBx5.out hb)
 have HM6 := Lib.hid (below_on HMx5.out hb)
 have HT26 := Lib.hid (blk_keep hb HT2x5.out)
 have HU26 := Lib.hid (blk_keep hb HU2x5.out)
 have HU36 := Lib.hid (blk_keep hb HU3x5.out)
 have HT46 := Lib.hid (blk_keep hb HT4x5.out)
 have HU46 := Lib.hid (blk_keep hb HU4x5.out)
 have HT56 := Lib.hid (blk_keep hb HT5x5.out)
 have HU56 := Lib.hid (blk_keep hb HU5x5.out)
 clear hb K5
 have ha6 := alloc1 w6 (.cells (stL zS).toArray 32) (Below.refl _ _)
 have hb6 := alloc1 (w6.alloc (.cells (stL zS).toArray 32)) (.cells #[.int .u64 0, .int .u32 0] 48) (Below.refl _ _)
 rw [alloc_size] at hb6
 have hc6 := blk_keep (below1 (w6.alloc (.cells (stL zS).toArray 32)) (.cells #[.int .u64 0, .int .u32 0] 48)) ha6
 have hk6 : Below w6.heap.size w6 ((w6.alloc (.cells (stL zS).toArray 32)).alloc (.cells #[.int .u64 0, .int .u32 0] 48)) := below_on (below1 _ _) (below1 _ _)
 obtain ⟨hst, hq9, ho9⟩ := store_st (s' := zS) hc6
 have HST := Lib.hid hst
 have HS6 := Lib.hid hq9
 have HO6 := Lib.hid (Only.keep ho9 (by omega) hb6)
 have HKK6 : Hid (Below w6.heap.size w6 (((w6.alloc (.cells (stL zS).toArray 32)).alloc (.cells #[.int .u64 0, .int .u32 0] 48)).setCells w6.heap.size 0 (stL zS))) := Lib.hid (Only.below hk6 (Nat.le_refl _) hk6.size ho9)
 obtain ⟨V6, hV6⟩ : ∃ V', V' = ((w6.alloc (.cells (stL zS).toArray 32)).alloc (.cells #[.int .u64 0, .int .u32 0] 48)).setCells w6.heap.size 0 (stL zS) := ⟨_, rfl⟩
 rw [← hV6] at HST HS6 HO6 HKK6
 clear ha6 hb6 hc6 hk6 hst hq9 ho9 hV6
 have c0 := blk_cell HO6.out 0 _ rfl
 have c1 := blk_cell HO6.out 1 _ rfl
 have f0 := blk_free HO6.out 0
 have f1 := blk_free HO6.out 1
 have hl := blk_lt HO6.out
 go_upto_region 9 with (first
  | rw [zero_st]
  | ((with_reducible refine wpList_store_is (op := ⟨none, .store 32 _ _, _, _, _, _⟩) rfl 32 _ _ rfl _ _ ?_ ?_ _ HST.out ?_); (· rfl); (· rfl)))
 clear c0 c1 f0 f1 hl
 refine name_any ?_
 intro X6 hX6
 have ho : Only (w6.heap.size + 1) V6 X6 := by rw [hX6]; exact ((Only.refl (w6.heap.size + 1) V6).setCell rfl _).setCell rfl _
 have HOx6 : Hid (X6.heap[w6.heap.size + 1]? = some (.cells #[.int .u64 0, .int .u32 0] 48)) := Lib.hid (by rw [hX6]; exact blk_set (blk_set HO6.out 0 _) 1 _)
 have HSx6 := Lib.hid (Only.keep ho (by omega) HS6.out)
 have HK6 : Hid (Below w6.heap.size w6 X6) := Lib.hid (Only.below HKK6.out (by omega) HKK6.out.size ho)
 have HBx6 := Lib.hid (below_on HB6.out HK6.out)
 have HMx6 := Lib.hid (below_on HM6.out HK6.out)
 have HT2x6 := Lib.hid (blk_keep HK6.out HT26.out)
 have HU2x6 := Lib.hid (blk_keep HK6.out HU26.out)
 have HU3x6 := Lib.hid (blk_keep HK6.out HU36.out)
 have HT4x6 := Lib.hid (blk_keep HK6.out HT46.out)
 have HU4x6 := Lib.hid (blk_keep HK6.out HU46.out)
 have HT5x6 := Lib.hid (blk_keep HK6.out HT56.out)
 have HU5x6 := Lib.hid (blk_keep HK6.out HU56.out)
 obtain ⟨ga6, hga6⟩ : ∃ g, g = w6.heap.size := ⟨_, rfl⟩
 obtain ⟨gb6, hgb6⟩ : ∃ g, g = ga6 + 1 := ⟨_, rfl⟩
 rw [← hga6] at HSx6 HOx6 ⊢
 rw [← hgb6] at HOx6 ⊢
 have HT6x6 := HSx6
 have HU6x6 := HOx6
 clear HSx6 HOx6
 clear hX6 ho hga6 hgb6 HST HS6 HO6 HKK6 HK6 HB6 HM6 HT26 HU26 HU36 HT46 HU46 HT56 HU56
 clear HLD
 have HLD := Lib.hid (load_st HT2x6.out)
 go_wp2_with (first
  | ((with_reducible refine wpList_load_is (op := ⟨some 75, _, _, _, _, _⟩) rfl 32 _ rfl _ _ ?_ HLD.out ?_); (· rfl)))
 have hbn := below1 X6 (.cells #[.int .u8 2, .int .i64 0] 74)
 have hqn := alloc1 X6 (.cells #[.int .u8 2, .int .i64 0] 74) (Below.refl _ _)
 refine (K6.out _ _ (below_on HMx6.out hbn) hqn).mono ?_
 rintro e w7 ⟨rfl, hb0⟩
 have hb := below_on hbn hb0
 have HB7 := Lib.hid (below_on HBx6.out hb)
 have HM7 := Lib.hid (below_on HMx6.out hb)
 have HT27 := Lib.hid (blk_keep hb HT2x6.out)
 have HU27 := Lib.hid (blk_keep hb HU2x6.out)
 have HU37 := Lib.hid (blk_keep hb HU3x6.out)
 have HT47 := Lib.hid (blk_keep hb HT4x6.out)
 have HU47 := Lib.hid (blk_keep hb HU4x6.out)
 have HT57 := Lib.hid (blk_keep hb HT5x6.out)
 have HU57 := Lib.hid (blk_keep hb HU5x6.out)
 have HT67 := Lib.hid (blk_keep hb HT6x6.out)
 clear hb hb0 hbn hqn K6 HLD
 have ha7 := alloc1 w7 (.cells (stL zS).toArray 32) (Below.refl _ _)
 have hb7 := alloc1 (w7.alloc (.cells (stL zS).toArray 32)) (.cells #[.int .u64 0, .int .u32 0] 48) (Below.refl _ _)
 rw [alloc_size] at hb7
 have hc7 := blk_keep (below1 (w7.alloc (.cells (stL zS).toArray 32)) (.cells #[.int .u64 0, .int .u32 0] 48)) ha7
 have hk7 : Below w7.heap.size w7 ((w7.alloc (.cells (stL zS).toArray 32)).alloc (.cells #[.int .u64 0, .int .u32 0] 48)) := below_on (below1 _ _) (below1 _ _)
 obtain ⟨hst, hq9, ho9⟩ := store_st (s' := sC) hc7
 have HST := Lib.hid hst
 have HS7 := Lib.hid hq9
 have HO7 := Lib.hid (Only.keep ho9 (by omega) hb7)
 have HKK7 : Hid (Below w7.heap.size w7 (((w7.alloc (.cells (stL zS).toArray 32)).alloc (.cells #[.int .u64 0, .int .u32 0] 48)).setCells w7.heap.size 0 (stL sC))) := Lib.hid (Only.below hk7 (Nat.le_refl _) hk7.size ho9)
 obtain ⟨V7, hV7⟩ : ∃ V', V' = ((w7.alloc (.cells (stL zS).toArray 32)).alloc (.cells #[.int .u64 0, .int .u32 0] 48)).setCells w7.heap.size 0 (stL sC) := ⟨_, rfl⟩
 rw [← hV7] at HST HS7 HO7 HKK7
 clear ha7 hb7 hc7 hk7 hst hq9 ho9 hV7
 have c0 := blk_cell HO7.out 0 _ rfl
 have c1 := blk_cell HO7.out 1 _ rfl
 have f0 := blk_free HO7.out 0
 have f1 := blk_free HO7.out 1
 have hl := blk_lt HO7.out
 go_upto_region 10 with (first
  | rw [zero_st]
  | ((with_reducible refine wpList_store_is (op := ⟨none, .store 32 _ _, _, _, _, _⟩) rfl 32 _ _ rfl _ _ ?_ ?_ _ HST.out ?_); (· rfl); (· rfl)))
 clear c0 c1 f0 f1 hl
 refine name_any ?_
 intro X7 hX7
 have ho : Only (w7.heap.size + 1) V7 X7 := by rw [hX7]; exact ((Only.refl (w7.heap.size + 1) V7).setCell rfl _).setCell rfl _
 have HOx7 : Hid (X7.heap[w7.heap.size + 1]? = some (.cells #[.int .u64 0, .int .u32 0] 48)) := Lib.hid (by rw [hX7]; exact blk_set (blk_set HO7.out 0 _) 1 _)
 have HSx7 := Lib.hid (Only.keep ho (by omega) HS7.out)
 have HK7 : Hid (Below w7.heap.size w7 X7) := Lib.hid (Only.below HKK7.out (by omega) HKK7.out.size ho)
 have HBx7 := Lib.hid (below_on HB7.out HK7.out)
 have HMx7 := Lib.hid (below_on HM7.out HK7.out)
 have HT2x7 := Lib.hid (blk_keep HK7.out HT27.out)
 have HU2x7 := Lib.hid (blk_keep HK7.out HU27.out)
 have HU3x7 := Lib.hid (blk_keep HK7.out HU37.out)
 have HT4x7 := Lib.hid (blk_keep HK7.out HT47.out)
 have HU4x7 := Lib.hid (blk_keep HK7.out HU47.out)
 have HT5x7 := Lib.hid (blk_keep HK7.out HT57.out)
 have HU5x7 := Lib.hid (blk_keep HK7.out HU57.out)
 have HT6x7 := Lib.hid (blk_keep HK7.out HT67.out)
 obtain ⟨ga7, hga7⟩ : ∃ g, g = w7.heap.size := ⟨_, rfl⟩
 obtain ⟨gb7, hgb7⟩ : ∃ g, g = ga7 + 1 := ⟨_, rfl⟩
 rw [← hga7] at HSx7 HOx7 ⊢
 rw [← hgb7] at HOx7 ⊢
 have HT7x7 := HSx7
 have HU7x7 := HOx7
 clear HSx7 HOx7
 clear hX7 ho hga7 hgb7 HST HS7 HO7 HKK7 HK7 HB7 HM7 HT27 HU27 HU37 HT47 HU47 HT57 HU57 HT67
 have e0 := blk_cell HT2x7.out 0 _ sA_0
 have e1 := blk_cell HU2x7.out 0 _ rfl
 have e2 := blk_cell HU3x7.out 0 _ rfl
 have e4 := blk_cell HU4x7.out 0 _ rfl
 have e5 := blk_cell HT5x7.out 1 _ sB_1
 have e6 := blk_cell HU5x7.out 0 _ rfl
 have e7 := blk_cell HT7x7.out 2 _ sC_2
 have e8 := blk_cell HT7x7.out 3 _ sC_3
 have L4 := Lib.hid (load_st HT4x7.out)
 have L6 := Lib.hid (load_st HT6x7.out)
 have ez := eq_zz
 go_wp2_with (first
  | ((with_reducible refine wpList_load_if (op := ⟨some 100, _, _, _, _, _⟩) ?_ 32 _ rfl _ _ ?_ L4.out ?_); (· rfl); (· rfl))
  | ((with_reducible refine wpList_build_if (op := ⟨some 101, _, _, _, _, _⟩) ?_ 32 rfl _ built_zero ?_); (· rfl))
  | ((with_reducible refine wpList_load_if (op := ⟨some 120, _, _, _, _, _⟩) ?_ 32 _ rfl _ _ ?_ L6.out ?_); (· rfl); (· rfl))
  | ((with_reducible refine wpList_build_if (op := ⟨some 121, _, _, _, _, _⟩) ?_ 32 rfl _ built_zero ?_); (· rfl)))
 go_ret
 exact ⟨rfl, HBx7.out⟩
end Go.Proofs.Ytjienmjpfklgeaa
