/-
 Layer 10: the document's Step.
-/
import Derived.Test.YtjienmjpfklgeaaIyA
import Derived.Test.YtjienmjpfklgeaaIxTj
import Derived.Test.YtjienmjpfklgeaaIxLa
import Derived.Test.YtjienmjpfklgeaaIxTr
import Derived.Test.YtjienmjpfklgeaaIxTp
import Derived.Test.YtjienmjpfklgeaaIxTd
namespace Go.Proofs.Ytjienmjpfklgeaa
open Go.RowKit
set_option maxRecDepth 100000
theorem comsD_zero (T : Tb) (oc : Nat) (l : List (Nat × Int)) (s : St) : comsG canD T oc (l.take 0) s = s := rfl
theorem comsD_succ {T : Tb} {oc : Nat} {l : List (Nat × Int)} {k : Nat} {c : Nat × Int} (h : l[k]? = some c) (s : St) : comsG canD T oc (l.take (k + 1)) s = comD T (comsG canD T oc (l.take k) s) oc c := coms_succ h s
theorem comsD_8 {T : Tb} {oc : Nat} {l : List (Nat × Int)} {k : Nat} (h : k = min l.length 8) (s : St) : comsG canD T oc (l.take k) s = comsG canD T oc (l.take 8) s := by
 by_cases h8 : l.length ≤ 8
 ·rw [List.take_of_length_le (by omega), List.take_of_length_le (by omega)]
 ·rw [show k = 8 by omega]
attribute [local irreducible] Sl.v hasBit pw withBit woBit cyL stL stV tmL freeS ndBad maySet ptL setS mayCan canS canD nedS flipB mayMov movS comG relS rouS proS tidyS comsG rousS prosS nextG outS lnOk rightK rgtS eqS Mc.tb upd mayS checkS sideN
attribute [local irreducible] tbL rwL secOf cofL Rt.tr Rt.nd conflictS pairS formedS
attribute [local irreducible] mskS
attribute [local irreducible] tdS nextD comD

set_option maxHeartbeats 16000000 in
theorem dstep_is (L : Lay) (s : St) (oc no re : Nat) (ia : Option Addr) (il ic : Nat) (l : List (Nat × Int)) (w : World) (hL : LayAt w L) (hc : (checkS L).1 = 0) (hs : s.ok) (ho : oc < 18446744073709551616) (hno : no < 4294967296) (hre : re < 4294967296) (hcm : CmdsAt w ia l) (hln : l.length = il) (hil : il ≤ 100000) :
 Calls Try.prog 12 #[.agg #[L.se.v, L.po.v, L.sg.v, L.rt.v], .agg (stL s).toArray, .agg #[.int .u64 (oc : Int), .int .u32 (no : Int), .int .u32 (re : Int), .slice ia il ic]] w fun e w' => e = .returned (.tuple #[.agg (stL (nextD (tbL L) s oc l)).toArray, .agg #[.int .u64 (outS (tbL L) (nextD (tbL L) s oc l) oc no re : Int), .int .u32 ((nextD (tbL L) s oc l).pt : Int)]]) ∧ Below w.heap.size w w' := by
 have HMAY : Hid (mayS L = true) := Lib.hid (cs_zero hc)
 have HS4 : Hid (L.rt.l.length ≤ 64) := Lib.hid (mayS_small (cs_zero hc)).2.2.2
 have HCK := Lib.hid hc
 have HTB : Hid (TbOk (tbL L)) := Lib.hid (tbl_ok hc)
 obtain ⟨TS, hTS⟩ : ∃ t, tidyS L.rt.l.length L.po.l.length s = t := ⟨_, rfl⟩
 have HTSO : Hid TS.ok := Lib.hid (hTS ▸ tidy_ok _ _ hs)
 have KTD : Hid (∀ V, Below w.heap.size w V → Calls Try.prog 19 #[.agg #[L.se.v, L.po.v, L.sg.v, L.rt.v], .agg (stL s).toArray] V fun e w' => e = .returned (.agg (stL TS).toArray) ∧ Below V.heap.size V w') := Lib.hid (fun V hV => hTS ▸ dtidy_is L s V (hL.below hV) hc hs)
 have KCM0 : Hid (∀ (k kd : Nat) (nn : Int) (S : St), l[k]? = some (kd, nn) → S.ok → ∀ V, Below w.heap.size w V → Calls Try.prog 29 #[.agg #[L.se.v, L.po.v, L.sg.v, L.rt.v], .agg (stL S).toArray, .agg #[.int .u64 (oc : Int), .int .u32 (no : Int), .int .u32 (re : Int), .slice ia il ic], .agg #[.int .u8 (kd : Int), .int .i64 nn]] V fun e w' => e = .returned (.agg (stL (comD (tbL L) S oc (kd, nn))).toArray) ∧ Below V.heap.size V w') := Lib.hid (fun k kd nn S hk hS V hV => by
  have h := hcm.1 _ (List.mem_of_getElem? hk)
  exact dcommand_is L S oc no re ia il ic kd nn V (hL.below hV) hc hS ho (by have := h.1; dsimp only at this; omega) h.2.1 h.2.2)
 have KRT : Hid (∀ (i : Nat) (x : Rt) (S : St), L.rt.l[i]? = some x → S.ok → ∀ V, Below w.heap.size w V → Calls Try.prog 30 #[.agg #[L.se.v, L.po.v, L.sg.v, L.rt.v], .agg (stL S).toArray, .agg #[.int .u64 (oc : Int), .int .u32 (no : Int), .int .u32 (re : Int), .slice ia il ic], .int .i64 (i : Int), .int .u64 (TS.us : Int)] V fun e w' => e = .returned (.agg (stL (rouS S oc TS.us i (rwL L i x))).toArray) ∧ Below V.heap.size V w') := Lib.hid (fun i x S hx hS V hV => droute_is L S oc no re ia il ic i TS.us x V (hL.below hV) hc hS ho HTSO.out.us hx)
 have KPR : Hid (∀ (i : Nat) (x : Rt) (S : St), L.rt.l[i]? = some x → S.ok → ∀ V, Below w.heap.size w V → Calls Try.prog 31 #[.agg #[L.se.v, L.po.v, L.sg.v, L.rt.v], .agg (stL S).toArray, .agg #[.int .u64 (oc : Int), .int .u32 (no : Int), .int .u32 (re : Int), .slice ia il ic], .int .i64 (i : Int)] V fun e w' => e = .returned (.bool (proS S oc (sideN no re) (sideN re no) i (rwL L i x))) ∧ Below V.heap.size V w') := Lib.hid (fun i x S hx hS V hV => dproceed_is L S oc no re ia il ic i x V (hL.below hV) hc hS ho hno hre hx)
 obtain ⟨n1, hn1⟩ : ∃ n, L.se.l.length = n := ⟨_, rfl⟩
 obtain ⟨n2, hn2⟩ : ∃ n, L.po.l.length = n := ⟨_, rfl⟩
 obtain ⟨n3, hn3⟩ : ∃ n, L.sg.l.length = n := ⟨_, rfl⟩
 obtain ⟨n4, hn4⟩ : ∃ n, L.rt.l.length = n := ⟨_, rfl⟩
 have HLW := Lib.hid hL
 have HN1 := Lib.hid hn1
 have HN2 := Lib.hid hn2
 have HN3 := Lib.hid hn3
 have HN4 := Lib.hid hn4
 have HTS : Hid (tidyS n4 n2 s = TS) := Lib.hid (by rw [← hn4, ← hn2]; exact hTS)
 have HCM := Lib.hid hcm
 have HLN := Lib.hid hln
 have HIL := Lib.hid hil
 rw [hn4] at HS4
 rw [slv hn1, slv hn2, slv hn3, slv hn4] at KTD KCM0 KRT KPR ⊢
 clear hn1 hn2 hn3 hn4 hL hc hs ho hno hre hcm hln hil hTS
 go_enter Try.func12, Try.ntmps12
 go_upto_region 1 with fail
 rw [zero_st]
 refine name_last (os := [.cells #[.slice L.se.a n1 L.se.c, .slice L.po.a n2 L.po.c, .slice L.sg.a n3 L.sg.c, .slice L.rt.a n4 L.rt.c] 27, .cells (stL s).toArray 32, .cells #[.int .u64 (oc : Int), .int .u32 (no : Int), .int .u32 (re : Int), .slice ia il ic] 35, .cells (stL zS).toArray 32, .cells #[.int .u64 0, .int .u32 0] 48]) (w0 := w) rfl ?_
 intro W hat hbw
 obtain ⟨gl, hgl⟩ : ∃ g, g = w.heap.size := ⟨_, rfl⟩
 have q0 := hat 0 _ rfl
 obtain ⟨gs, hgs⟩ : ∃ g, g = gl + 1 := ⟨_, rfl⟩
 have q1 := hat 1 _ rfl
 obtain ⟨gi, hgi⟩ : ∃ g, g = gs + 1 := ⟨_, rfl⟩
 have q2 := hat 2 _ rfl
 obtain ⟨g6, hg6⟩ : ∃ g, g = gi + 1 := ⟨_, rfl⟩
 have q3 := hat 3 _ rfl
 obtain ⟨g7, hg7⟩ : ∃ g, g = g6 + 1 := ⟨_, rfl⟩
 have q4 := hat 4 _ rfl
 rw [Nat.add_zero, ← hgl] at q0
 rw [← hgl, ← hgs] at q1
 rw [← hgl, show gl + 2 = gi by omega] at q2
 rw [← hgl, show gl + 3 = g6 by omega] at q3
 rw [← hgl, show gl + 4 = g7 by omega] at q4
 rw [← hgl, ← hgs, ← hgi, ← hg6, ← hg7]
 have HQl := Lib.hid q0
 have HQs := Lib.hid q1
 have HQi := Lib.hid q2
 have HQ6 := Lib.hid q3
 have HQ7 := Lib.hid q4
 have HB0 := Lib.hid hbw
 have HG : Hid (w.heap.size ≤ gs ∧ gl ≠ gs ∧ gi ≠ gs ∧ g6 ≠ gs ∧ g7 ≠ gs ∧ w.heap.size ≤ g6 ∧ w.heap.size ≤ g7 ∧ g7 ≠ g6) := Lib.hid (by omega)
 clear hat hbw q0 q1 q2 q3 q4 hgl hgs hgi hg6 hg7
 have l0 := blk_cell HQl.out 0 _ rfl
 have l1 := blk_cell HQl.out 1 _ rfl
 have l2 := blk_cell HQl.out 2 _ rfl
 have l3 := blk_cell HQl.out 3 _ rfl
 have HLD := Lib.hid (load_st HQs.out)
 go_wp2_with (first
  | ((with_reducible refine wpList_load_is (op := ⟨some 14, _, _, _, _, _⟩) rfl 32 _ rfl _ _ ?_ HLD.out ?_); (· rfl)))
 refine (KTD.out _ HB0.out).mono ?_
 rintro e w1 ⟨rfl, hb1⟩
 have HSa := Lib.hid (blk_keep hb1 HQs.out)
 have HWa : Hid (WX (fun b => b = gs) W w1) := Lib.hid (WX.of_below hb1)
 clear hb1 l0 l1 l2 l3 HLD KTD
 obtain ⟨hst, hq9, ho9⟩ := store_st (s' := TS) HSa.out
 have HST := Lib.hid hst
 have HSb := Lib.hid hq9
 have HWb := Lib.hid (HWa.out.trans (WX.of_only (X := fun b => b = gs) ho9 rfl))
 obtain ⟨V2, hV2⟩ : ∃ V', V' = w1.setCells gs 0 (stL TS) := ⟨_, rfl⟩
 rw [← hV2] at HST HSb HWb
 clear hst hq9 ho9 hV2
 have u1 := blk_cell HSb.out 1 _ (st_1 TS)
 have HLb := Lib.hid (HWb.out.keep HG.out.2.1 HQl.out)
 have HIb := Lib.hid (HWb.out.keep HG.out.2.2.1 HQi.out)
 have HBb : Hid (Below w.heap.size w V2) := Lib.hid (WX.below HB0.out HWb.out (fun b hb => by have hb : b = gs := hb; rw [hb]; exact HG.out.1))
 obtain ⟨K8, hK8⟩ : ∃ k, min il 8 = k := ⟨_, rfl⟩
 have HK8 : Hid (K8 ≤ 8 ∧ K8 ≤ il ∧ K8 = min l.length 8) := Lib.hid (by rw [HLN.out]; omega)
 clear hK8
 go_upto_region 4 with (first
  | ((with_reducible refine wpList_store_is (op := ⟨none, .store 32 _ _, _, _, _, _⟩) rfl 32 _ _ rfl _ _ ?_ ?_ _ HST.out ?_); (· rfl); (· rfl)))
 clear u1
 go_loopg [9] K8 (fun g v wq => ∃ k : Nat, k + g = K8 ∧ v = .int .i64 (k : Int) ∧ wq.heap[gs]? = some (.cells (stL (comsG canD (tbL L) oc (l.take k) TS)).toArray 32) ∧ WX (fun b => b = gs) W wq)
 case atStart => exact ⟨0, by omega, rfl, by rw [comsD_zero]; exact HSb.out, HWb.out⟩
 case round =>
  obtain ⟨k, hk, rfl, hq, hw⟩ := hrel
  have HK := Lib.hid hk
  have HSr := Lib.hid hq
  have HWr := Lib.hid hw
  clear hk hq hw
  have HLr := Lib.hid (HWr.out.keep HG.out.2.1 HQl.out)
  have HIr := Lib.hid (HWr.out.keep HG.out.2.2.1 HQi.out)
  have HBr : Hid (Below w.heap.size w wr) := Lib.hid (WX.below HB0.out HWr.out (fun b hb => by have hb : b = gs := hb; rw [hb]; exact HG.out.1))
  have m3 := blk_cell HIr.out 3 _ rfl
  by_cases hlk : k < K8
  ·have d1 : (0 : Int) ≤ k := by omega
   have d2 : (k : Int) < il := by have := HK8.out; omega
   have d3 : (k : Int) < 8 := by have := HK8.out; omega
   have e1 := k_succ (n := K8) hlk (by have := HK8.out; omega)
   have HLK8 := Lib.hid hlk
   have HLK : Hid (k < il) := Lib.hid (by have := HK8.out; omega)
   obtain ⟨S, hS⟩ : ∃ S, comsG canD (tbL L) oc (l.take k) TS = S := ⟨_, rfl⟩
   have HSO : Hid S.ok := Lib.hid (hS ▸ comsD_ok HTB.out oc _ _ HTSO.out)
   rw [hS] at HSr
   obtain ⟨ab, ao, kd, nn, hia, hget, hkd, _, hz0, hz1⟩ := HCM.out.at (i := k) (by rw [HLN.out]; exact HLK.out)
   have HZ0 := Lib.hid (cell_later HBr.out hz0)
   have HZ1 := Lib.hid (cell_later HBr.out hz1)
   obtain ⟨S2, hS2⟩ : ∃ S', comD (tbL L) S oc (kd, nn) = S' := ⟨_, rfl⟩
   have HS2E : Hid (comsG canD (tbL L) oc (l.take (k + 1)) TS = S2) := Lib.hid (by rw [comsD_succ hget, hS]; exact hS2)
   have KCM := Lib.hid (KCM0.out k kd nn S hget HSO.out)
   rw [hS2] at KCM
   have HCA := Lib.hid hia
   rw [hia] at m3 HIr KCM ⊢
   clear hS hget hkd hz0 hz1 hlk hia hS2
   go_upto_region 6 with fail
   clear m3 d1 d2 d3
   refine wp_region_rel (by kernel_rfl) [9] 12 [0, 1, 2, 3, 4, 5, 6, 7, 8] [29, 30, 31, 32, 33, 34, 35, 36, 37] #[true, true, true, true, true, true, true, true, true, false] 1 [(fun v _ => v = .agg #[.slice L.se.a n1 L.se.c, .slice L.po.a n2 L.po.c, .slice L.sg.a n3 L.sg.c, .slice L.rt.a n4 L.rt.c]), (fun v _ => v = .agg (stL S).toArray), (fun v _ => v = .agg #[.int .u64 (oc : Int), .int .u32 (no : Int), .int .u32 (re : Int), .slice (some ⟨ab, ao, none⟩) il ic]), (fun v _ => v = .pointer (some ⟨gi, 3, none⟩)), (fun v _ => v = .slice (some ⟨ab, ao, none⟩) il ic), (fun v _ => v = .int .i64 (k : Int)), (fun v _ => v = .pointer (some ⟨ab, ao + k * 2, none⟩)), (fun v _ => v = .agg #[.int .u8 (kd : Int), .int .i64 nn]), (fun v _ => v = .agg (stL S2).toArray), (fun _ _ => True)] (by kernel_rfl) (by kernel_rfl) (by kernel_rfl) (by kernel_rfl) (by kernel_rfl) rfl (by kernel_rfl) rfl ?_ ?_ ?_
   ·exact ⟨stays_is _, stays_is _, stays_is _, stays_is _, stays_is _, stays_is _, stays_is _, stays_is _, stays_is _, stays_true, trivial⟩
   ·refine ⟨?_, ?_, ?_, ?_, ?_, ?_, ?_, ?_, ?_, trivial⟩
    ·refine relOb_mk (o := ⟨some 29, _, _, _, _, _⟩) rfl (fun r V hc hf hg hs hb hd => ?_)
     have x3 : r (.tmp 3) = .pointer (some ⟨gl, 0, none⟩) := hs 3 (by kernel_rfl)
     clear hs hd hg
     have l0 := blk_cell (blk_keep hb HLr.out) 0 _ rfl
     have l1 := blk_cell (blk_keep hb HLr.out) 1 _ rfl
     have l2 := blk_cell (blk_keep hb HLr.out) 2 _ rfl
     have l3 := blk_cell (blk_keep hb HLr.out) 3 _ rfl
     go_simp
     exact ⟨Below.refl _ _, rfl⟩
    ·refine relOb_mk (o := ⟨some 30, _, _, _, _, _⟩) rfl (fun r V hc hf hg hs hb hd => ?_)
     have x4 : r (.tmp 4) = .pointer (some ⟨gs, 0, none⟩) := hs 4 (by kernel_rfl)
     clear hs hd hg
     exact rel_load_is (o := ⟨some 30, _, _, _, _, _⟩) 32 _ rfl _ _ x4 (load_st (blk_keep hb HSr.out)) rfl
    ·refine relOb_mk (o := ⟨some 31, _, _, _, _, _⟩) rfl (fun r V hc hf hg hs hb hd => ?_)
     have x5 : r (.tmp 5) = .pointer (some ⟨gi, 0, none⟩) := hs 5 (by kernel_rfl)
     clear hs hd hg
     have l0 := blk_cell (blk_keep hb HIr.out) 0 _ rfl
     have l1 := blk_cell (blk_keep hb HIr.out) 1 _ rfl
     have l2 := blk_cell (blk_keep hb HIr.out) 2 _ rfl
     have l3 := blk_cell (blk_keep hb HIr.out) 3 _ rfl
     go_simp
     exact ⟨Below.refl _ _, rfl⟩
    ·refine relOb_mk (o := ⟨some 32, _, _, _, _, _⟩) rfl (fun r V hc hf hg hs hb hd => ?_)
     have x5 : r (.tmp 5) = .pointer (some ⟨gi, 0, none⟩) := hs 5 (by kernel_rfl)
     clear hs hd hg
     go_simp
     exact ⟨Below.refl _ _, rfl⟩
    ·refine relOb_mk (o := ⟨some 33, _, _, _, _, _⟩) rfl (fun r V hc hf hg hs hb hd => ?_)
     have h3 : r (.tmp 32) = .pointer (some ⟨gi, 3, none⟩) := hd 3 32 rfl (by kernel_rfl)
     clear hs hd hg
     have l := blk_cell (blk_keep hb HIr.out) 3 _ rfl
     go_simp
     exact ⟨Below.refl _ _, rfl⟩
    ·refine relOb_mk (o := ⟨some 34, _, _, _, _, _⟩) rfl (fun r V hc hf hg hs hb hd => ?_)
     have x9 : r (.tmp 9) = .int .i64 (k : Int) := hs 9 (by kernel_rfl)
     clear hs hd hg
     go_simp
     exact ⟨Below.refl _ _, rfl⟩
    ·refine relOb_mk (o := ⟨some 35, _, _, _, _, _⟩) rfl (fun r V hc hf hg hs hb hd => ?_)
     have h4 : r (.tmp 33) = .slice (some ⟨ab, ao, none⟩) il ic := hd 4 33 rfl (by kernel_rfl)
     have h5 : r (.tmp 34) = .int .i64 (k : Int) := hd 5 34 rfl (by kernel_rfl)
     clear hs hd hg
     have d1 : (0 : Int) ≤ k := by omega
     have d2 : (k : Int) < il := by have := HLK.out; omega
     go_simp
     exact ⟨Below.refl _ _, rfl⟩
    ·refine relOb_mk (o := ⟨some 36, _, _, _, _, _⟩) rfl (fun r V hc hf hg hs hb hd => ?_)
     have h6 : r (.tmp 35) = .pointer (some ⟨ab, ao + k * 2, none⟩) := hd 6 35 rfl (by kernel_rfl)
     clear hs hd hg
     have z0 := cell_later hb HZ0.out
     have z1 := cell_later hb HZ1.out
     go_simp
     exact ⟨Below.refl _ _, rfl⟩
    ·refine relOb_mk (o := ⟨some 37, _, _, _, _, _⟩) rfl (fun r V hc hf hg hs hb hd => ?_)
     have h0 : r (.tmp 29) = .agg #[.slice L.se.a n1 L.se.c, .slice L.po.a n2 L.po.c, .slice L.sg.a n3 L.sg.c, .slice L.rt.a n4 L.rt.c] := hd 0 29 rfl (by kernel_rfl)
     have h1 : r (.tmp 30) = .agg (stL S).toArray := hd 1 30 rfl (by kernel_rfl)
     have h2 : r (.tmp 31) = .agg #[.int .u64 (oc : Int), .int .u32 (no : Int), .int .u32 (re : Int), .slice (some ⟨ab, ao, none⟩) il ic] := hd 2 31 rfl (by kernel_rfl)
     have h7 : r (.tmp 36) = .agg #[.int .u8 (kd : Int), .int .i64 nn] := hd 7 36 rfl (by kernel_rfl)
     clear hs hd hg
     go_simp
     refine (KCM.out V (below_on HBr.out hb)).mono ?_
     rintro e w' ⟨rfl, h9⟩
     exact ⟨_, rfl, h9, rfl⟩
   ·intro a V hb hx
    have h0 : a.eval (.tmp 29) = .agg #[.slice L.se.a n1 L.se.c, .slice L.po.a n2 L.po.c, .slice L.sg.a n3 L.sg.c, .slice L.rt.a n4 L.rt.c] := hx 0 29 rfl rfl
    have h1 : a.eval (.tmp 30) = .agg (stL S).toArray := hx 1 30 rfl rfl
    have h2 : a.eval (.tmp 31) = .agg #[.int .u64 (oc : Int), .int .u32 (no : Int), .int .u32 (re : Int), .slice (some ⟨ab, ao, none⟩) il ic] := hx 2 31 rfl rfl
    have h3 : a.eval (.tmp 32) = .pointer (some ⟨gi, 3, none⟩) := hx 3 32 rfl rfl
    have h4 : a.eval (.tmp 33) = .slice (some ⟨ab, ao, none⟩) il ic := hx 4 33 rfl rfl
    have h5 : a.eval (.tmp 34) = .int .i64 (k : Int) := hx 5 34 rfl rfl
    have h6 : a.eval (.tmp 35) = .pointer (some ⟨ab, ao + k * 2, none⟩) := hx 6 35 rfl rfl
    have h7 : a.eval (.tmp 36) = .agg #[.int .u8 (kd : Int), .int .i64 nn] := hx 7 36 rfl rfl
    have h8 : a.eval (.tmp 37) = .agg (stL S2).toArray := hx 8 37 rfl rfl
    unfold fillAll
    simp only [List.foldl_cons, List.foldl_nil, h0, h1, h2, h3, h4, h5, h6, h7, h8, Act.put, List.setIfInBounds_toArray, List.set_cons_zero, List.set_cons_succ]
    clear h0 h1 h2 h3 h4 h5 h6 h7 h8 hx
    have HSV := Lib.hid (blk_keep hb HSr.out)
    have HWV := Lib.hid (HWr.out.trans (WX.of_below hb))
    clear hb
    obtain ⟨hst, hq9, ho9⟩ := store_st (s' := S2) HSV.out
    have HST := Lib.hid hst
    have HS8 := Lib.hid hq9
    have HW8 := Lib.hid (HWV.out.trans (WX.of_only (X := fun b => b = gs) ho9 rfl))
    obtain ⟨V8, hV8⟩ : ∃ V', V' = V.setCells gs 0 (stL S2) := ⟨_, rfl⟩
    rw [← hV8] at HST HS8 HW8
    clear hst hq9 ho9 hV8
    refine wpAny_ready (rs := [9]) (by kernel_rfl) (by simp) (AllReady.cons (o := ⟨none, _, _, _, _, _⟩) rfl (fun K hK => ?_) AllReady.nil)
    refine wp_run_skip (w' := V8) ?_ ?_
    ·refine run_store_is 32 (.tmp 4) (.tmp 37) rfl (vx := .pointer (some ⟨gs, 0, none⟩)) (vy := .agg (stL S2).toArray) ?_ ?_ HST.out
     ·go_simp
     ·go_simp
    refine hK _ _ ?_
    clear hK K HST
    refine wpAny_done (by kernel_rfl) ?_ _
    go_wp2_with fail
    rw [← HCA.out]
    go_roundg (K8 - (k + 1))
    case rel => exact ⟨k + 1, k_next HK.out HLK8.out, by go_num, by rw [HS2E.out]; exact HS8.out, HW8.out⟩
    case measure => exact k_less HK.out HLK8.out
  ·have HS1E0 : Hid (comsG canD (tbL L) oc (l.take k) TS = comsG canD (tbL L) oc (l.take 8) TS) := Lib.hid (comsD_8 (by have := HK8.out.2.2; have := HK.out; omega) TS)
   obtain ⟨S1, hS1⟩ : ∃ S, comsG canD (tbL L) oc (l.take 8) TS = S := ⟨_, rfl⟩
   have HS1O : Hid S1.ok := Lib.hid (hS1 ▸ comsD_ok HTB.out oc _ _ HTSO.out)
   have HS1E := Lib.hid hS1
   have HS1 : Hid (wr.heap[gs]? = some (.cells (stL S1).toArray 32)) := Lib.hid (by have h := HSr.out; rw [HS1E0.out, hS1] at h; exact h)
   have HW1 := HWr
   have hkk : (k : Int) = K8 := by have := HK.out; omega
   have hend : ¬ ((k : Int) < il) ∨ ¬ ((k : Int) < 8) := by have h := HK8.out; have h2 := HLN.out; omega
   clear hS1 hlk HS1E0 hkk
   by_cases d4 : (k : Int) < il
   ·have d5 : ¬ ((k : Int) < 8) := hend.resolve_left (fun h => h d4)
    clear hend
    go_upto_region 8 with fail
    go_loopg [10] n4 (fun g v wq => ∃ i : Nat, i + g = n4 ∧ v = .int .i64 (i : Int) ∧ wq.heap[gs]? = some (.cells (stL (rousS (tbL L) oc TS.us S1 i)).toArray 32) ∧ WX (fun b => b = gs) W wq)
    case atStart => exact ⟨0, by omega, rfl, by rw [rous_zero]; exact HS1.out, HW1.out⟩
    case round =>
     obtain ⟨i, hi, rfl, hq, hw⟩ := hrel
     have HI0 := Lib.hid hi
     have HSq := Lib.hid hq
     have HWq := Lib.hid hw
     clear hi hq hw HS1 HW1
     have HLq := Lib.hid (HWq.out.keep HG.out.2.1 HQl.out)
     have HIq := Lib.hid (HWq.out.keep HG.out.2.2.1 HQi.out)
     have HBq : Hid (Below w.heap.size w wr) := Lib.hid (WX.below HB0.out HWq.out (fun b hb => by have hb : b = gs := hb; rw [hb]; exact HG.out.1))
     have l3 := blk_cell HLq.out 3 _ rfl
     by_cases hlt : i < n4
     ·have d1 : (0 : Int) ≤ i := by omega
      have d2 : (i : Int) < n4 := by omega
      have e1 := k_succ hlt (Nat.le_trans HS4.out (by decide))
      have HLT := Lib.hid hlt
      obtain ⟨S, hS⟩ : ∃ S, rousS (tbL L) oc TS.us S1 i = S := ⟨_, rfl⟩
      have HSO2 : Hid S.ok := Lib.hid (hS ▸ rous_ok HTB.out oc TS.us HS1O.out i)
      have HSN := Lib.hid hS
      rw [hS] at HSq
      obtain ⟨x, hx⟩ : ∃ x, L.rt.l[i]? = some x := ⟨_, List.getElem?_eq_getElem (by rw [HN4.out]; exact hlt)⟩
      have HX := Lib.hid hx
      obtain ⟨bl, hbl⟩ : ∃ b, hasBit S.lk i = b := ⟨_, rfl⟩
      have KHS : Hid (∀ V, Calls Try.prog 22 #[.int .u64 (S.lk : Int), .int .i64 (i : Int)] V fun e w' => e = .returned (.bool bl) ∧ Below V.heap.size V w') := Lib.hid (fun V => dhas_is bl S.lk i V (by have := HLT.out; have := HS4.out; omega) HSO2.out.lk hbl)
      have HBL := Lib.hid hbl
      have s0 := blk_cell HSq.out 0 _ (st_0 S)
      clear hS hx hbl hlt
      go_wp2_with fail
      refine (KHS.out _).mono ?_
      rintro e w5 ⟨rfl, hb5⟩
      have HS5 := Lib.hid (blk_keep hb5 HSq.out)
      have HW5 := Lib.hid (HWq.out.trans (WX.of_below hb5))
      have HL5 := Lib.hid (blk_keep hb5 HLq.out)
      have HI5 := Lib.hid (blk_keep hb5 HIq.out)
      have HB5 := Lib.hid (below_on HBq.out hb5)
      clear hb5 s0 l3 KHS
      cases bl with
      | false =>
        go_wp2_with fail
        go_roundg (n4 - (i + 1))
        case rel => exact ⟨i + 1, k_next HI0.out HLT.out, by go_num, by rw [rous_no (by rw [HSN.out]; exact HBL.out), HSN.out]; exact HS5.out, HW5.out⟩
        case measure => exact k_less HI0.out HLT.out
      | true =>
        have l0 := blk_cell HL5.out 0 _ rfl
        have l1 := blk_cell HL5.out 1 _ rfl
        have l2 := blk_cell HL5.out 2 _ rfl
        have l3 := blk_cell HL5.out 3 _ rfl
        have m0 := blk_cell HI5.out 0 _ rfl
        have m1 := blk_cell HI5.out 1 _ rfl
        have m2 := blk_cell HI5.out 2 _ rfl
        have m3 := blk_cell HI5.out 3 _ rfl
        have HLD := Lib.hid (load_st HS5.out)
        have HRO := Lib.hid (KRT.out i x S HX.out HSO2.out _ HB5.out)
        go_wp2_with (first
         | ((with_reducible refine wpList_load_is (op := ⟨some 50, _, _, _, _, _⟩) rfl 32 _ rfl _ _ ?_ HLD.out ?_); (· rfl)))
        refine HRO.out.mono ?_
        rintro e w6 ⟨rfl, hb6⟩
        have HS6 := Lib.hid (blk_keep hb6 HS5.out)
        have HW6 := Lib.hid (HW5.out.trans (WX.of_below hb6))
        clear hb6 l0 l1 l2 l3 m0 m1 m2 m3 HLD HRO
        obtain ⟨S2, hS2⟩ : ∃ S', rouS S oc TS.us i (rwL L i x) = S' := ⟨_, rfl⟩
        have HS2E : Hid (rousS (tbL L) oc TS.us S1 (i + 1) = S2) := Lib.hid (by rw [rous_yes (by rw [HSN.out]; exact HBL.out) (tbl_at HX.out), HSN.out]; exact hS2)
        rw [hS2]
        obtain ⟨hst, hq9, ho9⟩ := store_st (s' := S2) HS6.out
        have HST := Lib.hid hst
        have HS7 := Lib.hid hq9
        have HW7 := Lib.hid (HW6.out.trans (WX.of_only (X := fun b => b = gs) ho9 rfl))
        obtain ⟨V7, hV7⟩ : ∃ V', V' = w6.setCells gs 0 (stL S2) := ⟨_, rfl⟩
        rw [← hV7] at HST HS7 HW7
        clear hst hq9 ho9 hV7
        clear hS2
        go_wp2_with (first
         | ((with_reducible refine wpList_store_is (op := ⟨none, .store 32 _ _, _, _, _, _⟩) rfl 32 _ _ rfl _ _ ?_ ?_ _ HST.out ?_); (· rfl); (· rfl)))
        go_roundg (n4 - (i + 1))
        case rel => exact ⟨i + 1, k_next HI0.out HLT.out, by go_num, by rw [HS2E.out]; exact HS7.out, HW7.out⟩
        case measure => exact k_less HI0.out HLT.out
     ·have d2 : ¬ ((i : Int) < n4) := by omega
      obtain ⟨S2, hS2⟩ : ∃ S, rousS (tbL L) oc TS.us S1 n4 = S := ⟨_, rfl⟩
      have HS2O : Hid S2.ok := Lib.hid (hS2 ▸ rous_ok HTB.out oc TS.us HS1O.out n4)
      have HSE : Hid (wr.heap[gs]? = some (.cells (stL S2).toArray 32)) := Lib.hid (by rw [← hS2, show n4 = i by have := HI0.out; omega]; exact HSq.out)
      have HNX : Hid (nextD (tbL L) s oc l = S2) := Lib.hid (by rw [nextD_is, tbl_len, tbl_li, HN4.out, HN2.out, HTS.out, HS1E.out]; exact hS2)
      have c67 := blk_cell HSE.out 67 _ (st_67 S2)
      clear hlt hS2 HSq
      go_upto_region 13 with fail
      have hbn := below1 wr (.cells #[.int .u64 0, .int .u32 (S2.pt : Int)] 48)
      have hqn := alloc1 wr (.cells #[.int .u64 0, .int .u32 (S2.pt : Int)] 48) (Below.refl _ _)
      obtain ⟨VO, hVO⟩ : ∃ V, V = wr.alloc (.cells #[.int .u64 0, .int .u32 (S2.pt : Int)] 48) := ⟨_, rfl⟩
      rw [← hVO] at hbn hqn ⊢
      obtain ⟨g11, hg11⟩ : ∃ g, g = wr.heap.size := ⟨_, rfl⟩
      rw [← hg11] at hqn ⊢
      have HSo := Lib.hid (blk_keep hbn HSE.out)
      have HLo := Lib.hid (blk_keep hbn HLq.out)
      have HIo := Lib.hid (blk_keep hbn HIq.out)
      have HBo := Lib.hid (below_on HBq.out hbn)
      have H6o := Lib.hid (blk_keep hbn (HWq.out.keep HG.out.2.2.2.1 HQ6.out))
      have H7o := Lib.hid (blk_keep hbn (HWq.out.keep HG.out.2.2.2.2.1 HQ7.out))
      have HQO := Lib.hid hqn
      have HGO : Hid (gs ≠ g11 ∧ gl ≠ g11 ∧ gi ≠ g11 ∧ g6 ≠ g11 ∧ g7 ≠ g11 ∧ w.heap.size ≤ g11) := Lib.hid (by have h1 := blk_lt HSE.out; have h2 := blk_lt HLq.out; have h3 := blk_lt HIq.out; have h4 := blk_lt (HWq.out.keep HG.out.2.2.2.1 HQ6.out); have h5 := blk_lt (HWq.out.keep HG.out.2.2.2.2.1 HQ7.out); have h6 := HBq.out.size; omega)
      obtain ⟨SA, hSA⟩ : ∃ a, sideN no re = a := ⟨_, rfl⟩
      obtain ⟨SB, hSB⟩ : ∃ a, sideN re no = a := ⟨_, rfl⟩
      have HSA := Lib.hid hSA
      have HSB := Lib.hid hSB
      clear hbn hqn hVO hg11 c67 d2 l3 hSA hSB HSE
      go_upto_region 14 with fail
      go_loopg [12] n4 (fun g v wq => ∃ i : Nat, i + g = n4 ∧ v = .int .i64 (i : Int) ∧ wq.heap[g11]? = some (.cells #[.int .u64 (prosS (tbL L) S2 oc SA SB i : Int), .int .u32 (S2.pt : Int)] 48) ∧ WX (fun b => b = g11) VO wq)
      case atStart => exact ⟨0, by omega, rfl, by rw [pros_zero]; exact HQO.out, WX.refl _ _⟩
      case round =>
       obtain ⟨i, hi, rfl, hq, hw⟩ := hrel
       have HI2 := Lib.hid hi
       have HQq := Lib.hid hq
       have HWp := Lib.hid hw
       clear hi hq hw HQO
       have HSp := Lib.hid (HWp.out.keep HGO.out.1 HSo.out)
       have HLp := Lib.hid (HWp.out.keep HGO.out.2.1 HLo.out)
       have HIp := Lib.hid (HWp.out.keep HGO.out.2.2.1 HIo.out)
       have HBp : Hid (Below w.heap.size w wr) := Lib.hid (WX.below HBo.out HWp.out (fun b hb => by have hb : b = g11 := hb; rw [hb]; exact HGO.out.2.2.2.2.2))
       have l3 := blk_cell HLp.out 3 _ rfl
       by_cases hlt : i < n4
       ·have d1 : (0 : Int) ≤ i := by omega
        have d2 : (i : Int) < n4 := by omega
        have e1 := k_succ hlt (Nat.le_trans HS4.out (by decide))
        have HLT := Lib.hid hlt
        have HN63 : Hid (i ≤ 63) := Lib.hid (by have := HS4.out; omega)
        obtain ⟨A, hA⟩ : ∃ A, prosS (tbL L) S2 oc SA SB i = A := ⟨_, rfl⟩
        have HAL : Hid (A < 18446744073709551616) := Lib.hid (hA ▸ pros_lt (tbL L) S2 oc SA SB i (by have := HN63.out; omega))
        rw [hA] at HQq
        obtain ⟨x, hx⟩ : ∃ x, L.rt.l[i]? = some x := ⟨_, List.getElem?_eq_getElem (by rw [HN4.out]; exact hlt)⟩
        obtain ⟨bp, hbp⟩ : ∃ b, proS S2 oc SA SB i (rwL L i x) = b := ⟨_, rfl⟩
        have HPC := Lib.hid (KPR.out i x S2 hx HS2O.out _ HBp.out)
        rw [HSA.out, HSB.out, hbp] at HPC
        have HX := Lib.hid (tbl_at hx)
        have HA := Lib.hid hA
        have HBP := Lib.hid hbp
        clear hA hx hlt hbp
        have l0 := blk_cell HLp.out 0 _ rfl
        have l1 := blk_cell HLp.out 1 _ rfl
        have l2 := blk_cell HLp.out 2 _ rfl
        have l3 := blk_cell HLp.out 3 _ rfl
        have m0 := blk_cell HIp.out 0 _ rfl
        have m1 := blk_cell HIp.out 1 _ rfl
        have m2 := blk_cell HIp.out 2 _ rfl
        have m3 := blk_cell HIp.out 3 _ rfl
        have HLD := Lib.hid (load_st HSp.out)
        go_wp2_with (first
         | ((with_reducible refine wpList_load_is (op := ⟨some 66, _, _, _, _, _⟩) rfl 32 _ rfl _ _ ?_ HLD.out ?_); (· rfl)))
        refine HPC.out.mono ?_
        rintro e w5 ⟨rfl, hb⟩
        have HQ5' := Lib.hid (blk_keep hb HQq.out)
        have HW5 := Lib.hid (HWp.out.trans (WX.of_below hb))
        clear hb HPC l0 l1 l2 l3 m0 m1 m2 m3 HLD
        cases bp with
        | false =>
          go_wp2_with fail
          go_roundg (n4 - (i + 1))
          case rel => exact ⟨i + 1, k_next HI2.out HLT.out, by go_num, by rw [pros_no HX.out HBP.out, HA.out]; exact HQ5'.out, HW5.out⟩
          case measure => exact k_less HI2.out HLT.out
        | true =>
          go_upto_region 17 with fail
          refine wp_region_rel (by kernel_rfl) [6] 9 [0, 1, 2, 3, 4, 5] [70, 71, 72, 73, 74, 75] #[true, true, true, true, true, true, false] 1 [(fun v _ => v = .pointer (some ⟨g11, 0, none⟩)), (fun v _ => v = .int .u64 (A : Int)), (fun v _ => v = .int .i64 (i : Int)), (fun v _ => v = .int .u64 (pw i : Int)), (fun v _ => v = .int .u64 ((withBit A i : Nat) : Int)), (fun v _ => v = .pointer (some ⟨g11, 0, none⟩)), (fun _ _ => True)] (by kernel_rfl) (by kernel_rfl) (by kernel_rfl) (by kernel_rfl) (by kernel_rfl) rfl (by kernel_rfl) rfl ?_ ?_ ?_
          ·exact ⟨stays_is _, stays_is _, stays_is _, stays_is _, stays_is _, stays_is _, stays_true, trivial⟩
          ·refine ⟨?_, ?_, ?_, ?_, ?_, ?_, trivial⟩
           ·refine relOb_mk (o := ⟨some 70, _, _, _, _, _⟩) rfl (fun r V hc hf hg hs hb hd => ?_)
            have x11 : r (.tmp 11) = .pointer (some ⟨g11, 0, none⟩) := hs 11 (by kernel_rfl)
            clear hs hd hg
            go_simp
            exact ⟨Below.refl _ _, rfl⟩
           ·refine relOb_mk (o := ⟨some 71, _, _, _, _, _⟩) rfl (fun r V hc hf hg hs hb hd => ?_)
            have h0 : r (.tmp 70) = .pointer (some ⟨g11, 0, none⟩) := hd 0 70 rfl (by kernel_rfl)
            clear hs hd hg
            have l := blk_cell (blk_keep hb HQ5'.out) 0 _ rfl
            go_simp
            exact ⟨Below.refl _ _, rfl⟩
           ·refine relOb_mk (o := ⟨some 72, _, _, _, _, _⟩) rfl (fun r V hc hf hg hs hb hd => ?_)
            have x12 : r (.tmp 12) = .int .i64 (i : Int) := hs 12 (by kernel_rfl)
            clear hs hd hg
            go_simp
            exact ⟨Below.refl _ _, rfl⟩
           ·refine relOb_mk (o := ⟨some 73, _, _, _, _, _⟩) rfl (fun r V hc hf hg hs hb hd => ?_)
            have h2 : r (.tmp 72) = .int .i64 (i : Int) := hd 2 72 rfl (by kernel_rfl)
            clear hs hd hg
            have h63 := HN63.out
            have h0 : (0 : Int) ≤ i := by omega
            have h1 : min i 64 = i := by omega
            have h2 : ¬ (64 : Int) ≤ i := by omega
            have hs1 := one_form i h63
            go_simp
            exact ⟨Below.refl _ _, by simp⟩
           ·refine relOb_mk (o := ⟨some 74, _, _, _, _, _⟩) rfl (fun r V hc hf hg hs hb hd => ?_)
            have h1 : r (.tmp 71) = .int .u64 (A : Int) := hd 1 71 rfl (by kernel_rfl)
            have h3 : r (.tmp 73) = .int .u64 (pw i : Int) := hd 3 73 rfl (by kernel_rfl)
            clear hs hd hg
            have ho1 := or_form A i HN63.out HAL.out
            go_simp
            exact ⟨Below.refl _ _, rfl⟩
           ·refine relOb_mk (o := ⟨some 75, _, _, _, _, _⟩) rfl (fun r V hc hf hg hs hb hd => ?_)
            have x11 : r (.tmp 11) = .pointer (some ⟨g11, 0, none⟩) := hs 11 (by kernel_rfl)
            clear hs hd hg
            go_simp
            exact ⟨Below.refl _ _, rfl⟩
          ·intro a V hb hx
           have h0 : a.eval (.tmp 70) = .pointer (some ⟨g11, 0, none⟩) := hx 0 70 rfl rfl
           have h1 : a.eval (.tmp 71) = .int .u64 (A : Int) := hx 1 71 rfl rfl
           have h2 : a.eval (.tmp 72) = .int .i64 (i : Int) := hx 2 72 rfl rfl
           have h3 : a.eval (.tmp 73) = .int .u64 (pw i : Int) := hx 3 73 rfl rfl
           have h4 : a.eval (.tmp 74) = .int .u64 ((withBit A i : Nat) : Int) := hx 4 74 rfl rfl
           have h5 : a.eval (.tmp 75) = .pointer (some ⟨g11, 0, none⟩) := hx 5 75 rfl rfl
           unfold fillAll
           simp only [List.foldl_cons, List.foldl_nil, h0, h1, h2, h3, h4, h5, Act.put, List.setIfInBounds_toArray, List.set_cons_zero, List.set_cons_succ]
           clear h0 h1 h2 h3 h4 h5 hx
           have HQV := Lib.hid (blk_keep hb HQ5'.out)
           have HXV := Lib.hid (HW5.out.trans (WX.of_below hb))
           clear hb HQ5' HW5
           refine wpAny_ready (rs := [6]) (by kernel_rfl) (by simp) (AllReady.cons (o := ⟨none, _, _, _, _, _⟩) rfl (fun K hK => ?_) AllReady.nil)
           have c0 := blk_cell HQV.out 0 _ rfl
           have f0 := blk_free HQV.out 0
           have hl := blk_lt HQV.out
           go_simp
           clear c0 f0 hl
           refine name_K ?_
           intro VZ hVZ
           have ho : Only g11 V VZ := by rw [hVZ]; exact (Only.refl g11 V).setCell rfl _
           have HQZ : Hid (VZ.heap[g11]? = some (.cells #[.int .u64 ((withBit A i : Nat) : Int), .int .u32 (S2.pt : Int)] 48)) := Lib.hid (by rw [hVZ]; exact blk_set HQV.out 0 _)
           have HXZ := Lib.hid (HXV.out.trans (WX.of_only (X := fun b => b = g11) ho rfl))
           clear hVZ ho HQV HXV
           refine hK _ _ ?_
           clear hK K
           refine wpAny_done (by kernel_rfl) ?_ _
           go_wp2_with fail
           go_roundg (n4 - (i + 1))
           case rel => exact ⟨i + 1, k_next HI2.out HLT.out, by go_num, by rw [pros_yes HX.out HBP.out, HA.out]; exact HQZ.out, HXZ.out⟩
           case measure => exact k_less HI2.out HLT.out
       ·have d2 : ¬ ((i : Int) < n4) := by omega
        have hin : i = n4 := by have := HI2.out; omega
        obtain ⟨PR, hPR⟩ : ∃ A, prosS (tbL L) S2 oc SA SB n4 = A := ⟨_, rfl⟩
        have HQE : Hid (wr.heap[g11]? = some (.cells #[.int .u64 (PR : Int), .int .u32 (S2.pt : Int)] 48)) := Lib.hid (by rw [← hPR, ← hin]; exact HQq.out)
        have HOUT : Hid (outS (tbL L) S2 oc no re = PR) := Lib.hid (by rw [out_is, HSA.out, HSB.out, tbl_len, HN4.out]; exact hPR)
        have H6p := Lib.hid (HWp.out.keep HGO.out.2.2.2.1 H6o.out)
        have H7p := Lib.hid (HWp.out.keep HGO.out.2.2.2.2.1 H7o.out)
        clear hlt hin hPR HQq
        go_upto_region 18 with fail
        clear d2 l3
        obtain ⟨WR, hWR⟩ : ∃ W', W' = wr := ⟨_, rfl⟩
        rw [← hWR] at H6p H7p HBp HSp HQE ⊢
        clear hWR
        refine wp_region_held_drew (S := fun w' => w'.heap[gs]? = some (.cells (stL S2).toArray 32) ∧ w'.heap[g11]? = some (.cells #[.int .u64 (PR : Int), .int .u32 (S2.pt : Int)] 48)) (by kernel_rfl) ⟨HSp.out, HQE.out⟩ (fun hH => ?_)
        refine wpAnyH_take (i := 0) (oi := ⟨some 76, _, _, _, _, _⟩) (v := .agg (stL S2).toArray) rfl (by kernel_rfl) (by kernel_rfl) (by kernel_rfl) (fun _ _ _ h => h) (Or.inl ⟨by rfl, fun w hS => run_load_is 32 (.tmp 4) rfl (vx := .pointer (some ⟨gs, 0, none⟩)) (by go_simp) (load_st hS.1)⟩) hH ?_
        refine wpAnyH_take (i := 1) (oi := ⟨some 77, _, _, _, _, _⟩) (v := .agg #[.int .u64 (PR : Int), .int .u32 (S2.pt : Int)]) rfl (by kernel_rfl) (by kernel_rfl) (by kernel_rfl) (fun _ _ _ h => h) (Or.inl ⟨by rfl, fun w hS => by have l0 := blk_cell hS.2 0 _ rfl; have l1 := blk_cell hS.2 1 _ rfl; go_simp⟩) hH ?_
        obtain ⟨hst, hq9, ho9⟩ := store_st (w := WR.drew) (s' := S2) (b := g6) (t := 32) H6p.out
        have HST := Lib.hid hst
        have HQ9 := Lib.hid hq9
        have HQ97 := Lib.hid (blk_only ho9 HG.out.2.2.2.2.2.2.2 H7p.out)
        have HCG := Lib.hid (blk_only ho9 (fun e => HG.out.2.2.2.1 e.symm) HSp.out)
        have HC12 := Lib.hid (blk_only ho9 (fun e => HGO.out.2.2.2.1 e.symm) HQE.out)
        have HB9 : Hid (Below w.heap.size w (WR.drew.setCells g6 0 (stL S2))) := Lib.hid (Only.below HBp.out.drew HG.out.2.2.2.2.2.1 HBp.out.size ho9)
        obtain ⟨V6, hV6⟩ : ∃ V, V = WR.drew.setCells g6 0 (stL S2) := ⟨_, rfl⟩
        rw [← hV6] at HST HQ9 HQ97 HB9 HCG HC12
        clear hst hq9 ho9 hV6
        refine wpAnyH_ready (rs := [2]) (by kernel_rfl) (by simp) (AllReadyH.cons (o := ⟨none, _, _, _, _, _⟩) rfl (fun K hK => ?_) AllReadyH.nil)
        rw [if_pos (by rfl)]
        simp only [Act.put, List.setIfInBounds_toArray, List.set_cons_zero, List.set_cons_succ]
        refine wp_run_skip (w' := V6) ?_ ?_
        ·refine run_store_is 32 (.tmp 6) (.tmp 76) rfl (vx := .pointer (some ⟨g6, 0, none⟩)) (vy := .agg (stL S2).toArray) ?_ ?_ HST.out
         ·go_simp
         ·go_simp
        simp only [Act.put]
        refine hK.out _ _ ⟨HCG.out, HC12.out⟩ (fun hH3 => ?_)
        refine wpAnyH_ready (rs := [3]) (by kernel_rfl) (by simp) (AllReadyH.cons (o := ⟨none, _, _, _, _, _⟩) rfl (fun K9 hK9 => ?_) AllReadyH.nil)
        rw [if_pos (by rfl)]
        have c0 := blk_cell HQ97.out 0 _ rfl
        have c1 := blk_cell HQ97.out 1 _ rfl
        have f0 := blk_free HQ97.out 0
        have f1 := blk_free HQ97.out 1
        have hl := blk_lt HQ97.out
        go_simp
        clear c0 c1 f0 f1 hl
        refine name_K ?_
        intro V7 hV7
        have ho : Only g7 V6 V7 := by rw [hV7]; exact ((Only.refl g7 V6).setCell rfl _).setCell rfl _
        have HQ7E : Hid (V7.heap[g7]? = some (.cells #[.int .u64 (PR : Int), .int .u32 (S2.pt : Int)] 48)) := Lib.hid (by rw [hV7]; exact blk_set (blk_set HQ97.out 0 _) 1 _)
        have HQ6E : Hid (V7.heap[g6]? = some (.cells (stL S2).toArray 32)) := Lib.hid (blk_only ho (fun e => HG.out.2.2.2.2.2.2.2 e.symm) HQ9.out)
        have HBE7 : Hid (Below w.heap.size w V7) := Lib.hid (Only.below HB9.out HG.out.2.2.2.2.2.2.1 HB9.out.size ho)
        have hS7 : V7.heap[gs]? = some (.cells (stL S2).toArray 32) ∧ V7.heap[g11]? = some (.cells #[.int .u64 (PR : Int), .int .u32 (S2.pt : Int)] 48) := ⟨blk_only ho (fun e => HG.out.2.2.2.2.1 e.symm) HCG.out, blk_only ho (fun e => HGO.out.2.2.2.2.1 e.symm) HC12.out⟩
        clear hV7 ho
        refine hK9.out _ _ hS7 (fun hH4 => ?_)
        refine wpAnyH_done (by kernel_rfl) ?_ _
        go_wp2_with fail
        (try simp only [Exit.inBlock, Exit.then])
        refine bodyPost_ret (results_cells2 rfl _ _ g6 g7 32 48 (stL S2).toArray #[.int .u64 (PR : Int), .int .u32 (S2.pt : Int)] (0, 0) (0, 0) _ _ rfl HQ6E.out Try.underlying32 rfl (by rw [List.size_toArray, st_len]; exact info_st) rfl HQ7E.out Try.underlying48 rfl info_out) rfl ?_
        rw [HNX.out, HOUT.out]
        exact ⟨rfl, HBE7.out⟩
   ·clear hend
    go_upto_region 8 with fail
    go_loopg [10] n4 (fun g v wq => ∃ i : Nat, i + g = n4 ∧ v = .int .i64 (i : Int) ∧ wq.heap[gs]? = some (.cells (stL (rousS (tbL L) oc TS.us S1 i)).toArray 32) ∧ WX (fun b => b = gs) W wq)
    case atStart => exact ⟨0, by omega, rfl, by rw [rous_zero]; exact HS1.out, HW1.out⟩
    case round =>
     obtain ⟨i, hi, rfl, hq, hw⟩ := hrel
     have HI0 := Lib.hid hi
     have HSq := Lib.hid hq
     have HWq := Lib.hid hw
     clear hi hq hw HS1 HW1
     have HLq := Lib.hid (HWq.out.keep HG.out.2.1 HQl.out)
     have HIq := Lib.hid (HWq.out.keep HG.out.2.2.1 HQi.out)
     have HBq : Hid (Below w.heap.size w wr) := Lib.hid (WX.below HB0.out HWq.out (fun b hb => by have hb : b = gs := hb; rw [hb]; exact HG.out.1))
     have l3 := blk_cell HLq.out 3 _ rfl
     by_cases hlt : i < n4
     ·have d1 : (0 : Int) ≤ i := by omega
      have d2 : (i : Int) < n4 := by omega
      have e1 := k_succ hlt (Nat.le_trans HS4.out (by decide))
      have HLT := Lib.hid hlt
      obtain ⟨S, hS⟩ : ∃ S, rousS (tbL L) oc TS.us S1 i = S := ⟨_, rfl⟩
      have HSO2 : Hid S.ok := Lib.hid (hS ▸ rous_ok HTB.out oc TS.us HS1O.out i)
      have HSN := Lib.hid hS
      rw [hS] at HSq
      obtain ⟨x, hx⟩ : ∃ x, L.rt.l[i]? = some x := ⟨_, List.getElem?_eq_getElem (by rw [HN4.out]; exact hlt)⟩
      have HX := Lib.hid hx
      obtain ⟨bl, hbl⟩ : ∃ b, hasBit S.lk i = b := ⟨_, rfl⟩
      have KHS : Hid (∀ V, Calls Try.prog 22 #[.int .u64 (S.lk : Int), .int .i64 (i : Int)] V fun e w' => e = .returned (.bool bl) ∧ Below V.heap.size V w') := Lib.hid (fun V => dhas_is bl S.lk i V (by have := HLT.out; have := HS4.out; omega) HSO2.out.lk hbl)
      have HBL := Lib.hid hbl
      have s0 := blk_cell HSq.out 0 _ (st_0 S)
      clear hS hx hbl hlt
      go_wp2_with fail
      refine (KHS.out _).mono ?_
      rintro e w5 ⟨rfl, hb5⟩
      have HS5 := Lib.hid (blk_keep hb5 HSq.out)
      have HW5 := Lib.hid (HWq.out.trans (WX.of_below hb5))
      have HL5 := Lib.hid (blk_keep hb5 HLq.out)
      have HI5 := Lib.hid (blk_keep hb5 HIq.out)
      have HB5 := Lib.hid (below_on HBq.out hb5)
      clear hb5 s0 l3 KHS
      cases bl with
      | false =>
        go_wp2_with fail
        go_roundg (n4 - (i + 1))
        case rel => exact ⟨i + 1, k_next HI0.out HLT.out, by go_num, by rw [rous_no (by rw [HSN.out]; exact HBL.out), HSN.out]; exact HS5.out, HW5.out⟩
        case measure => exact k_less HI0.out HLT.out
      | true =>
        have l0 := blk_cell HL5.out 0 _ rfl
        have l1 := blk_cell HL5.out 1 _ rfl
        have l2 := blk_cell HL5.out 2 _ rfl
        have l3 := blk_cell HL5.out 3 _ rfl
        have m0 := blk_cell HI5.out 0 _ rfl
        have m1 := blk_cell HI5.out 1 _ rfl
        have m2 := blk_cell HI5.out 2 _ rfl
        have m3 := blk_cell HI5.out 3 _ rfl
        have HLD := Lib.hid (load_st HS5.out)
        have HRO := Lib.hid (KRT.out i x S HX.out HSO2.out _ HB5.out)
        go_wp2_with (first
         | ((with_reducible refine wpList_load_is (op := ⟨some 50, _, _, _, _, _⟩) rfl 32 _ rfl _ _ ?_ HLD.out ?_); (· rfl)))
        refine HRO.out.mono ?_
        rintro e w6 ⟨rfl, hb6⟩
        have HS6 := Lib.hid (blk_keep hb6 HS5.out)
        have HW6 := Lib.hid (HW5.out.trans (WX.of_below hb6))
        clear hb6 l0 l1 l2 l3 m0 m1 m2 m3 HLD HRO
        obtain ⟨S2, hS2⟩ : ∃ S', rouS S oc TS.us i (rwL L i x) = S' := ⟨_, rfl⟩
        have HS2E : Hid (rousS (tbL L) oc TS.us S1 (i + 1) = S2) := Lib.hid (by rw [rous_yes (by rw [HSN.out]; exact HBL.out) (tbl_at HX.out), HSN.out]; exact hS2)
        rw [hS2]
        obtain ⟨hst, hq9, ho9⟩ := store_st (s' := S2) HS6.out
        have HST := Lib.hid hst
        have HS7 := Lib.hid hq9
        have HW7 := Lib.hid (HW6.out.trans (WX.of_only (X := fun b => b = gs) ho9 rfl))
        obtain ⟨V7, hV7⟩ : ∃ V', V' = w6.setCells gs 0 (stL S2) := ⟨_, rfl⟩
        rw [← hV7] at HST HS7 HW7
        clear hst hq9 ho9 hV7
        clear hS2
        go_wp2_with (first
         | ((with_reducible refine wpList_store_is (op := ⟨none, .store 32 _ _, _, _, _, _⟩) rfl 32 _ _ rfl _ _ ?_ ?_ _ HST.out ?_); (· rfl); (· rfl)))
        go_roundg (n4 - (i + 1))
        case rel => exact ⟨i + 1, k_next HI0.out HLT.out, by go_num, by rw [HS2E.out]; exact HS7.out, HW7.out⟩
        case measure => exact k_less HI0.out HLT.out
     ·have d2 : ¬ ((i : Int) < n4) := by omega
      obtain ⟨S2, hS2⟩ : ∃ S, rousS (tbL L) oc TS.us S1 n4 = S := ⟨_, rfl⟩
      have HS2O : Hid S2.ok := Lib.hid (hS2 ▸ rous_ok HTB.out oc TS.us HS1O.out n4)
      have HSE : Hid (wr.heap[gs]? = some (.cells (stL S2).toArray 32)) := Lib.hid (by rw [← hS2, show n4 = i by have := HI0.out; omega]; exact HSq.out)
      have HNX : Hid (nextD (tbL L) s oc l = S2) := Lib.hid (by rw [nextD_is, tbl_len, tbl_li, HN4.out, HN2.out, HTS.out, HS1E.out]; exact hS2)
      have c67 := blk_cell HSE.out 67 _ (st_67 S2)
      clear hlt hS2 HSq
      go_upto_region 13 with fail
      have hbn := below1 wr (.cells #[.int .u64 0, .int .u32 (S2.pt : Int)] 48)
      have hqn := alloc1 wr (.cells #[.int .u64 0, .int .u32 (S2.pt : Int)] 48) (Below.refl _ _)
      obtain ⟨VO, hVO⟩ : ∃ V, V = wr.alloc (.cells #[.int .u64 0, .int .u32 (S2.pt : Int)] 48) := ⟨_, rfl⟩
      rw [← hVO] at hbn hqn ⊢
      obtain ⟨g11, hg11⟩ : ∃ g, g = wr.heap.size := ⟨_, rfl⟩
      rw [← hg11] at hqn ⊢
      have HSo := Lib.hid (blk_keep hbn HSE.out)
      have HLo := Lib.hid (blk_keep hbn HLq.out)
      have HIo := Lib.hid (blk_keep hbn HIq.out)
      have HBo := Lib.hid (below_on HBq.out hbn)
      have H6o := Lib.hid (blk_keep hbn (HWq.out.keep HG.out.2.2.2.1 HQ6.out))
      have H7o := Lib.hid (blk_keep hbn (HWq.out.keep HG.out.2.2.2.2.1 HQ7.out))
      have HQO := Lib.hid hqn
      have HGO : Hid (gs ≠ g11 ∧ gl ≠ g11 ∧ gi ≠ g11 ∧ g6 ≠ g11 ∧ g7 ≠ g11 ∧ w.heap.size ≤ g11) := Lib.hid (by have h1 := blk_lt HSE.out; have h2 := blk_lt HLq.out; have h3 := blk_lt HIq.out; have h4 := blk_lt (HWq.out.keep HG.out.2.2.2.1 HQ6.out); have h5 := blk_lt (HWq.out.keep HG.out.2.2.2.2.1 HQ7.out); have h6 := HBq.out.size; omega)
      obtain ⟨SA, hSA⟩ : ∃ a, sideN no re = a := ⟨_, rfl⟩
      obtain ⟨SB, hSB⟩ : ∃ a, sideN re no = a := ⟨_, rfl⟩
      have HSA := Lib.hid hSA
      have HSB := Lib.hid hSB
      clear hbn hqn hVO hg11 c67 d2 l3 hSA hSB HSE
      go_upto_region 14 with fail
      go_loopg [12] n4 (fun g v wq => ∃ i : Nat, i + g = n4 ∧ v = .int .i64 (i : Int) ∧ wq.heap[g11]? = some (.cells #[.int .u64 (prosS (tbL L) S2 oc SA SB i : Int), .int .u32 (S2.pt : Int)] 48) ∧ WX (fun b => b = g11) VO wq)
      case atStart => exact ⟨0, by omega, rfl, by rw [pros_zero]; exact HQO.out, WX.refl _ _⟩
      case round =>
       obtain ⟨i, hi, rfl, hq, hw⟩ := hrel
       have HI2 := Lib.hid hi
       have HQq := Lib.hid hq
       have HWp := Lib.hid hw
       clear hi hq hw HQO
       have HSp := Lib.hid (HWp.out.keep HGO.out.1 HSo.out)
       have HLp := Lib.hid (HWp.out.keep HGO.out.2.1 HLo.out)
       have HIp := Lib.hid (HWp.out.keep HGO.out.2.2.1 HIo.out)
       have HBp : Hid (Below w.heap.size w wr) := Lib.hid (WX.below HBo.out HWp.out (fun b hb => by have hb : b = g11 := hb; rw [hb]; exact HGO.out.2.2.2.2.2))
       have l3 := blk_cell HLp.out 3 _ rfl
       by_cases hlt : i < n4
       ·have d1 : (0 : Int) ≤ i := by omega
        have d2 : (i : Int) < n4 := by omega
        have e1 := k_succ hlt (Nat.le_trans HS4.out (by decide))
        have HLT := Lib.hid hlt
        have HN63 : Hid (i ≤ 63) := Lib.hid (by have := HS4.out; omega)
        obtain ⟨A, hA⟩ : ∃ A, prosS (tbL L) S2 oc SA SB i = A := ⟨_, rfl⟩
        have HAL : Hid (A < 18446744073709551616) := Lib.hid (hA ▸ pros_lt (tbL L) S2 oc SA SB i (by have := HN63.out; omega))
        rw [hA] at HQq
        obtain ⟨x, hx⟩ : ∃ x, L.rt.l[i]? = some x := ⟨_, List.getElem?_eq_getElem (by rw [HN4.out]; exact hlt)⟩
        obtain ⟨bp, hbp⟩ : ∃ b, proS S2 oc SA SB i (rwL L i x) = b := ⟨_, rfl⟩
        have HPC := Lib.hid (KPR.out i x S2 hx HS2O.out _ HBp.out)
        rw [HSA.out, HSB.out, hbp] at HPC
        have HX := Lib.hid (tbl_at hx)
        have HA := Lib.hid hA
        have HBP := Lib.hid hbp
        clear hA hx hlt hbp
        have l0 := blk_cell HLp.out 0 _ rfl
        have l1 := blk_cell HLp.out 1 _ rfl
        have l2 := blk_cell HLp.out 2 _ rfl
        have l3 := blk_cell HLp.out 3 _ rfl
        have m0 := blk_cell HIp.out 0 _ rfl
        have m1 := blk_cell HIp.out 1 _ rfl
        have m2 := blk_cell HIp.out 2 _ rfl
        have m3 := blk_cell HIp.out 3 _ rfl
        have HLD := Lib.hid (load_st HSp.out)
        go_wp2_with (first
         | ((with_reducible refine wpList_load_is (op := ⟨some 66, _, _, _, _, _⟩) rfl 32 _ rfl _ _ ?_ HLD.out ?_); (· rfl)))
        refine HPC.out.mono ?_
        rintro e w5 ⟨rfl, hb⟩
        have HQ5' := Lib.hid (blk_keep hb HQq.out)
        have HW5 := Lib.hid (HWp.out.trans (WX.of_below hb))
        clear hb HPC l0 l1 l2 l3 m0 m1 m2 m3 HLD
        cases bp with
        | false =>
          go_wp2_with fail
          go_roundg (n4 - (i + 1))
          case rel => exact ⟨i + 1, k_next HI2.out HLT.out, by go_num, by rw [pros_no HX.out HBP.out, HA.out]; exact HQ5'.out, HW5.out⟩
          case measure => exact k_less HI2.out HLT.out
        | true =>
          go_upto_region 17 with fail
          refine wp_region_rel (by kernel_rfl) [6] 9 [0, 1, 2, 3, 4, 5] [70, 71, 72, 73, 74, 75] #[true, true, true, true, true, true, false] 1 [(fun v _ => v = .pointer (some ⟨g11, 0, none⟩)), (fun v _ => v = .int .u64 (A : Int)), (fun v _ => v = .int .i64 (i : Int)), (fun v _ => v = .int .u64 (pw i : Int)), (fun v _ => v = .int .u64 ((withBit A i : Nat) : Int)), (fun v _ => v = .pointer (some ⟨g11, 0, none⟩)), (fun _ _ => True)] (by kernel_rfl) (by kernel_rfl) (by kernel_rfl) (by kernel_rfl) (by kernel_rfl) rfl (by kernel_rfl) rfl ?_ ?_ ?_
          ·exact ⟨stays_is _, stays_is _, stays_is _, stays_is _, stays_is _, stays_is _, stays_true, trivial⟩
          ·refine ⟨?_, ?_, ?_, ?_, ?_, ?_, trivial⟩
           ·refine relOb_mk (o := ⟨some 70, _, _, _, _, _⟩) rfl (fun r V hc hf hg hs hb hd => ?_)
            have x11 : r (.tmp 11) = .pointer (some ⟨g11, 0, none⟩) := hs 11 (by kernel_rfl)
            clear hs hd hg
            go_simp
            exact ⟨Below.refl _ _, rfl⟩
           ·refine relOb_mk (o := ⟨some 71, _, _, _, _, _⟩) rfl (fun r V hc hf hg hs hb hd => ?_)
            have h0 : r (.tmp 70) = .pointer (some ⟨g11, 0, none⟩) := hd 0 70 rfl (by kernel_rfl)
            clear hs hd hg
            have l := blk_cell (blk_keep hb HQ5'.out) 0 _ rfl
            go_simp
            exact ⟨Below.refl _ _, rfl⟩
           ·refine relOb_mk (o := ⟨some 72, _, _, _, _, _⟩) rfl (fun r V hc hf hg hs hb hd => ?_)
            have x12 : r (.tmp 12) = .int .i64 (i : Int) := hs 12 (by kernel_rfl)
            clear hs hd hg
            go_simp
            exact ⟨Below.refl _ _, rfl⟩
           ·refine relOb_mk (o := ⟨some 73, _, _, _, _, _⟩) rfl (fun r V hc hf hg hs hb hd => ?_)
            have h2 : r (.tmp 72) = .int .i64 (i : Int) := hd 2 72 rfl (by kernel_rfl)
            clear hs hd hg
            have h63 := HN63.out
            have h0 : (0 : Int) ≤ i := by omega
            have h1 : min i 64 = i := by omega
            have h2 : ¬ (64 : Int) ≤ i := by omega
            have hs1 := one_form i h63
            go_simp
            exact ⟨Below.refl _ _, by simp⟩
           ·refine relOb_mk (o := ⟨some 74, _, _, _, _, _⟩) rfl (fun r V hc hf hg hs hb hd => ?_)
            have h1 : r (.tmp 71) = .int .u64 (A : Int) := hd 1 71 rfl (by kernel_rfl)
            have h3 : r (.tmp 73) = .int .u64 (pw i : Int) := hd 3 73 rfl (by kernel_rfl)
            clear hs hd hg
            have ho1 := or_form A i HN63.out HAL.out
            go_simp
            exact ⟨Below.refl _ _, rfl⟩
           ·refine relOb_mk (o := ⟨some 75, _, _, _, _, _⟩) rfl (fun r V hc hf hg hs hb hd => ?_)
            have x11 : r (.tmp 11) = .pointer (some ⟨g11, 0, none⟩) := hs 11 (by kernel_rfl)
            clear hs hd hg
            go_simp
            exact ⟨Below.refl _ _, rfl⟩
          ·intro a V hb hx
           have h0 : a.eval (.tmp 70) = .pointer (some ⟨g11, 0, none⟩) := hx 0 70 rfl rfl
           have h1 : a.eval (.tmp 71) = .int .u64 (A : Int) := hx 1 71 rfl rfl
           have h2 : a.eval (.tmp 72) = .int .i64 (i : Int) := hx 2 72 rfl rfl
           have h3 : a.eval (.tmp 73) = .int .u64 (pw i : Int) := hx 3 73 rfl rfl
           have h4 : a.eval (.tmp 74) = .int .u64 ((withBit A i : Nat) : Int) := hx 4 74 rfl rfl
           have h5 : a.eval (.tmp 75) = .pointer (some ⟨g11, 0, none⟩) := hx 5 75 rfl rfl
           unfold fillAll
           simp only [List.foldl_cons, List.foldl_nil, h0, h1, h2, h3, h4, h5, Act.put, List.setIfInBounds_toArray, List.set_cons_zero, List.set_cons_succ]
           clear h0 h1 h2 h3 h4 h5 hx
           have HQV := Lib.hid (blk_keep hb HQ5'.out)
           have HXV := Lib.hid (HW5.out.trans (WX.of_below hb))
           clear hb HQ5' HW5
           refine wpAny_ready (rs := [6]) (by kernel_rfl) (by simp) (AllReady.cons (o := ⟨none, _, _, _, _, _⟩) rfl (fun K hK => ?_) AllReady.nil)
           have c0 := blk_cell HQV.out 0 _ rfl
           have f0 := blk_free HQV.out 0
           have hl := blk_lt HQV.out
           go_simp
           clear c0 f0 hl
           refine name_K ?_
           intro VZ hVZ
           have ho : Only g11 V VZ := by rw [hVZ]; exact (Only.refl g11 V).setCell rfl _
           have HQZ : Hid (VZ.heap[g11]? = some (.cells #[.int .u64 ((withBit A i : Nat) : Int), .int .u32 (S2.pt : Int)] 48)) := Lib.hid (by rw [hVZ]; exact blk_set HQV.out 0 _)
           have HXZ := Lib.hid (HXV.out.trans (WX.of_only (X := fun b => b = g11) ho rfl))
           clear hVZ ho HQV HXV
           refine hK _ _ ?_
           clear hK K
           refine wpAny_done (by kernel_rfl) ?_ _
           go_wp2_with fail
           go_roundg (n4 - (i + 1))
           case rel => exact ⟨i + 1, k_next HI2.out HLT.out, by go_num, by rw [pros_yes HX.out HBP.out, HA.out]; exact HQZ.out, HXZ.out⟩
           case measure => exact k_less HI2.out HLT.out
       ·have d2 : ¬ ((i : Int) < n4) := by omega
        have hin : i = n4 := by have := HI2.out; omega
        obtain ⟨PR, hPR⟩ : ∃ A, prosS (tbL L) S2 oc SA SB n4 = A := ⟨_, rfl⟩
        have HQE : Hid (wr.heap[g11]? = some (.cells #[.int .u64 (PR : Int), .int .u32 (S2.pt : Int)] 48)) := Lib.hid (by rw [← hPR, ← hin]; exact HQq.out)
        have HOUT : Hid (outS (tbL L) S2 oc no re = PR) := Lib.hid (by rw [out_is, HSA.out, HSB.out, tbl_len, HN4.out]; exact hPR)
        have H6p := Lib.hid (HWp.out.keep HGO.out.2.2.2.1 H6o.out)
        have H7p := Lib.hid (HWp.out.keep HGO.out.2.2.2.2.1 H7o.out)
        clear hlt hin hPR HQq
        go_upto_region 18 with fail
        clear d2 l3
        obtain ⟨WR, hWR⟩ : ∃ W', W' = wr := ⟨_, rfl⟩
        rw [← hWR] at H6p H7p HBp HSp HQE ⊢
        clear hWR
        refine wp_region_held_drew (S := fun w' => w'.heap[gs]? = some (.cells (stL S2).toArray 32) ∧ w'.heap[g11]? = some (.cells #[.int .u64 (PR : Int), .int .u32 (S2.pt : Int)] 48)) (by kernel_rfl) ⟨HSp.out, HQE.out⟩ (fun hH => ?_)
        refine wpAnyH_take (i := 0) (oi := ⟨some 76, _, _, _, _, _⟩) (v := .agg (stL S2).toArray) rfl (by kernel_rfl) (by kernel_rfl) (by kernel_rfl) (fun _ _ _ h => h) (Or.inl ⟨by rfl, fun w hS => run_load_is 32 (.tmp 4) rfl (vx := .pointer (some ⟨gs, 0, none⟩)) (by go_simp) (load_st hS.1)⟩) hH ?_
        refine wpAnyH_take (i := 1) (oi := ⟨some 77, _, _, _, _, _⟩) (v := .agg #[.int .u64 (PR : Int), .int .u32 (S2.pt : Int)]) rfl (by kernel_rfl) (by kernel_rfl) (by kernel_rfl) (fun _ _ _ h => h) (Or.inl ⟨by rfl, fun w hS => by have l0 := blk_cell hS.2 0 _ rfl; have l1 := blk_cell hS.2 1 _ rfl; go_simp⟩) hH ?_
        obtain ⟨hst, hq9, ho9⟩ := store_st (w := WR.drew) (s' := S2) (b := g6) (t := 32) H6p.out
        have HST := Lib.hid hst
        have HQ9 := Lib.hid hq9
        have HQ97 := Lib.hid (blk_only ho9 HG.out.2.2.2.2.2.2.2 H7p.out)
        have HCG := Lib.hid (blk_only ho9 (fun e => HG.out.2.2.2.1 e.symm) HSp.out)
        have HC12 := Lib.hid (blk_only ho9 (fun e => HGO.out.2.2.2.1 e.symm) HQE.out)
        have HB9 : Hid (Below w.heap.size w (WR.drew.setCells g6 0 (stL S2))) := Lib.hid (Only.below HBp.out.drew HG.out.2.2.2.2.2.1 HBp.out.size ho9)
        obtain ⟨V6, hV6⟩ : ∃ V, V = WR.drew.setCells g6 0 (stL S2) := ⟨_, rfl⟩
        rw [← hV6] at HST HQ9 HQ97 HB9 HCG HC12
        clear hst hq9 ho9 hV6
        refine wpAnyH_ready (rs := [2]) (by kernel_rfl) (by simp) (AllReadyH.cons (o := ⟨none, _, _, _, _, _⟩) rfl (fun K hK => ?_) AllReadyH.nil)
        rw [if_pos (by rfl)]
        simp only [Act.put, List.setIfInBounds_toArray, List.set_cons_zero, List.set_cons_succ]
        refine wp_run_skip (w' := V6) ?_ ?_
        ·refine run_store_is 32 (.tmp 6) (.tmp 76) rfl (vx := .pointer (some ⟨g6, 0, none⟩)) (vy := .agg (stL S2).toArray) ?_ ?_ HST.out
         ·go_simp
         ·go_simp
        simp only [Act.put]
        refine hK.out _ _ ⟨HCG.out, HC12.out⟩ (fun hH3 => ?_)
        refine wpAnyH_ready (rs := [3]) (by kernel_rfl) (by simp) (AllReadyH.cons (o := ⟨none, _, _, _, _, _⟩) rfl (fun K9 hK9 => ?_) AllReadyH.nil)
        rw [if_pos (by rfl)]
        have c0 := blk_cell HQ97.out 0 _ rfl
        have c1 := blk_cell HQ97.out 1 _ rfl
        have f0 := blk_free HQ97.out 0
        have f1 := blk_free HQ97.out 1
        have hl := blk_lt HQ97.out
        go_simp
        clear c0 c1 f0 f1 hl
        refine name_K ?_
        intro V7 hV7
        have ho : Only g7 V6 V7 := by rw [hV7]; exact ((Only.refl g7 V6).setCell rfl _).setCell rfl _
        have HQ7E : Hid (V7.heap[g7]? = some (.cells #[.int .u64 (PR : Int), .int .u32 (S2.pt : Int)] 48)) := Lib.hid (by rw [hV7]; exact blk_set (blk_set HQ97.out 0 _) 1 _)
        have HQ6E : Hid (V7.heap[g6]? = some (.cells (stL S2).toArray 32)) := Lib.hid (blk_only ho (fun e => HG.out.2.2.2.2.2.2.2 e.symm) HQ9.out)
        have HBE7 : Hid (Below w.heap.size w V7) := Lib.hid (Only.below HB9.out HG.out.2.2.2.2.2.2.1 HB9.out.size ho)
        have hS7 : V7.heap[gs]? = some (.cells (stL S2).toArray 32) ∧ V7.heap[g11]? = some (.cells #[.int .u64 (PR : Int), .int .u32 (S2.pt : Int)] 48) := ⟨blk_only ho (fun e => HG.out.2.2.2.2.1 e.symm) HCG.out, blk_only ho (fun e => HGO.out.2.2.2.2.1 e.symm) HC12.out⟩
        clear hV7 ho
        refine hK9.out _ _ hS7 (fun hH4 => ?_)
        refine wpAnyH_done (by kernel_rfl) ?_ _
        go_wp2_with fail
        (try simp only [Exit.inBlock, Exit.then])
        refine bodyPost_ret (results_cells2 rfl _ _ g6 g7 32 48 (stL S2).toArray #[.int .u64 (PR : Int), .int .u32 (S2.pt : Int)] (0, 0) (0, 0) _ _ rfl HQ6E.out Try.underlying32 rfl (by rw [List.size_toArray, st_len]; exact info_st) rfl HQ7E.out Try.underlying48 rfl info_out) rfl ?_
        rw [HNX.out, HOUT.out]
        exact ⟨rfl, HBE7.out⟩
end Go.Proofs.Ytjienmjpfklgeaa
