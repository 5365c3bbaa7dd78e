/-
 Layer 10: the document's command: move.
-/
import Derived.Test.YtjienmjpfklgeaaIxTc
namespace Go.Proofs.Ytjienmjpfklgeaa
open Go.RowKit
set_option maxRecDepth 100000
attribute [local irreducible] Sl.v hasBit pw withBit woBit cyL stL stV tmL freeS ndBad maySet ptL setS mayCan canS canD nedS flipB mayMov movS comG relS rouS proS tidyS comsG rousS prosS nextG outS lnOk rightK rgtS eqS Mc.tb upd mayS checkS sideN
attribute [local irreducible] tbL rwL secOf cofL Rt.tr Rt.nd conflictS pairS formedS
attribute [local irreducible] mskS

set_option maxHeartbeats 16000000 in
theorem dcmd_3 (L : Lay) (s : St) (oc no re : Nat) (ia : Option Addr) (il ic : Nat) (kd : Nat) (nn : Int) (w : World) (hL : LayAt w L) (hc : (checkS L).1 = 0) (hs : s.ok) (ho : oc < 18446744073709551616) (hkd : kd ≤ 255) (h1 : -9223372036854775808 ≤ nn) (h2 : nn ≤ 9223372036854775807) (hk : kd = 3) (n : Nat) (pn : BA) (ps : Int) (hn : nn = (n : Int)) (hx : L.po.l[n]? = some (pn, ps)) :
 Calls Try.prog 29 #[.agg #[L.se.v, L.po.v, L.sg.v, L.rt.v], .agg (stL s).toArray, .agg #[.int .u64 (oc : Int), .int .u32 (no : Int), .int .u32 (re : Int), .slice ia il ic], .agg #[.int .u8 (kd : Int), .int .i64 nn]] w fun e w' => e = .returned (.agg (stL (comD (tbL L) s oc (kd, nn))).toArray) ∧ Below w.heap.size w w' := by
 have HMAY : Hid (mayS L = true) := Lib.hid (cs_zero hc)
 have HS4 : Hid (L.rt.l.length ≤ 64) := Lib.hid (mayS_small (cs_zero hc)).2.2.2
 have HCK := Lib.hid hc
 have HS2 : Hid (L.po.l.length ≤ 32) := Lib.hid (mayS_small (cs_zero hc)).2.1
 have HS1 : Hid (L.se.l.length ≤ 64) := Lib.hid (mayS_small (cs_zero hc)).1
 have HBR : Hid (cmdRight L.po.l.length L.rt.l.length (kd, nn) = true) := Lib.hid (by
  have hl := (List.getElem?_eq_some_iff.1 hx).1
  unfold cmdRight
  exact decide_eq_true (by dsimp only; omega))
 have h31 : n ≤ 31 := by have h1 := (List.getElem?_eq_some_iff.1 hx).1; have := HS2.out; omega
 have HN31 := Lib.hid h31
 have hps : 0 ≤ ps ∧ ps ≤ 63 := by have h := (t_sec HMAY.out).1 _ (List.mem_of_getElem? hx); dsimp only at h; have := HS1.out; omega
 obtain ⟨q, rfl⟩ : ∃ q : Nat, ps = q := ⟨ps.toNat, by omega⟩
 obtain ⟨bq, hbq⟩ : ∃ b, hasBit oc q = b := ⟨_, rfl⟩
 obtain ⟨bn, hbn⟩ : ∃ b, nedS (tbL L) s n L.rt.l.length = b := ⟨_, rfl⟩
 have HEQ : Hid (comD (tbL L) s oc (kd, nn) = if (!bq && !bn) then { s with pt := flipB s.pt n } else s) := Lib.hid (by
  rw [hn, hk, cmd_mov (List.getElem?_eq_some_iff.1 hx).1, mov_if, mov_may, tbl_len, hbn, li_at hx]
  dsimp only
  rw [Int.toNat_natCast, hbq])
 have KCL : Hid (∀ V, Calls Try.prog 60 #[.agg #[.int .u64 (oc : Int), .int .u32 (no : Int), .int .u32 (re : Int), .slice ia il ic], .int .i64 (q : Int)] V fun e w' => e = .returned (.bool (!bq)) ∧ Below V.heap.size V w') := Lib.hid (fun V => dclear_is bq oc no re ia il ic q V (by omega) ho hbq)
 have KNE0 : Hid (∀ V, Below w.heap.size w V → Calls Try.prog 61 #[.agg #[L.se.v, L.po.v, L.sg.v, L.rt.v], .agg (stL s).toArray, .int .i64 (n : Int)] V fun e w' => e = .returned (.bool bn) ∧ Below V.heap.size V w') := Lib.hid (fun V hV => dneeded_is bn L s n V (hL.below hV) hc hs hbn)
 have HPO : Hid (RowAt 2 ptC w L.po.a L.po.l) := Lib.hid hL.po.row
 have HXR := Lib.hid hx
 have HKD := Lib.hid hk
 have HNN := Lib.hid hn
 clear h31 hps hbq hbn hx hk hn
 have HSO := Lib.hid hs
 have HOC := Lib.hid ho
 obtain ⟨n1, hn1⟩ : ∃ n, L.se.l.length = n := ⟨_, rfl⟩
 obtain ⟨n2, hn2⟩ : ∃ n, L.po.l.length = n := ⟨_, rfl⟩
 obtain ⟨n3, hn3⟩ : ∃ n, L.sg.l.length = n := ⟨_, rfl⟩
 obtain ⟨n4, hn4⟩ : ∃ n, L.rt.l.length = n := ⟨_, rfl⟩
 have HLW := Lib.hid hL
 have HN1 := Lib.hid hn1
 have HN2 := Lib.hid hn2
 have HN3 := Lib.hid hn3
 have HN4 := Lib.hid hn4
 have KR : Hid (∀ (V : World) (g : Nat), V.heap[g]? = some (.cells #[.int .u8 (kd : Int), .int .i64 nn] 74) → Calls Try.prog 58 #[.agg #[.slice L.se.a n1 L.se.c, .slice L.po.a n2 L.po.c, .slice L.sg.a n3 L.sg.c, .slice L.rt.a n4 L.rt.c], .agg #[.int .u64 0, .int .u32 0, .int .u32 0, .slice (some ⟨g, 0, none⟩) 1 1]] V fun e w' => e = .returned (.bool true) ∧ Below V.heap.size V w') := Lib.hid (fun V g hg => by
  have h := refright_any n1 n2 n3 n4 L.se.a L.po.a L.sg.a L.rt.a L.se.c L.po.c L.sg.c L.rt.c 0 0 0 (some ⟨g, 0, none⟩) [(kd, nn)] 1 1 V rfl (by omega) (by rw [← hn1]; have := HS1.out; omega) (by rw [← hn2]; have := HS2.out; omega) (by rw [← hn4]; have := HS4.out; omega) (cmd_at hg (by omega) h1 h2) (by omega) (by omega) (by omega)
  rw [in_one, show min n2 32 = L.po.l.length by have := HS2.out; omega, show min n4 64 = L.rt.l.length by have := HS4.out; omega, HBR.out] at h
  exact h)
 rw [slv hn1, slv hn2, slv hn3, slv hn4] at KNE0
 rw [hn4] at HS4
 rw [slv hn1, slv hn2, slv hn3, slv hn4]
 have HROWL : Hid (RowAt 6 rtC w L.rt.a L.rt.l) := Lib.hid hL.rt.row
 clear hn1 hn2 hn3 hn4 hL hc hs ho hkd h1 h2
 go_enter Try.func29, Try.ntmps29
 go_upto_region 1 with fail
 rw [zero_st]
 refine name_last (os := [.cells #[.slice L.se.a n1 L.se.c, .slice L.po.a n2 L.po.c, .slice L.sg.a n3 L.sg.c, .slice L.rt.a n4 L.rt.c] 27, .cells (stL s).toArray 32, .cells #[.int .u64 (oc : Int), .int .u32 (no : Int), .int .u32 (re : Int), .slice ia il ic] 35, .cells #[.int .u8 (kd : Int), .int .i64 nn] 74, .cells (stL zS).toArray 32]) (w0 := w) rfl ?_
 intro W hat hbw
 obtain ⟨gl, hgl⟩ : ∃ g, g = w.heap.size := ⟨_, rfl⟩
 have q0 := hat 0 _ rfl
 obtain ⟨gs, hgs⟩ : ∃ g, g = gl + 1 := ⟨_, rfl⟩
 have q1 := hat 1 _ rfl
 obtain ⟨gi, hgi⟩ : ∃ g, g = gs + 1 := ⟨_, rfl⟩
 have q2 := hat 2 _ rfl
 obtain ⟨gc, hgc⟩ : ∃ g, g = gi + 1 := ⟨_, rfl⟩
 have q3 := hat 3 _ rfl
 obtain ⟨gr, hgr⟩ : ∃ g, g = gc + 1 := ⟨_, rfl⟩
 have q4 := hat 4 _ rfl
 rw [Nat.add_zero, ← hgl] at q0
 rw [← hgl, ← hgs] at q1
 rw [← hgl, show gl + 2 = gi by omega] at q2
 rw [← hgl, show gl + 3 = gc by omega] at q3
 rw [← hgl, show gl + 4 = gr by omega] at q4
 rw [← hgl, ← hgs, ← hgi, ← hgc, ← hgr]
 have HQl := Lib.hid q0
 have HQs := Lib.hid q1
 have HQi := Lib.hid q2
 have HQc := Lib.hid q3
 have HQr := Lib.hid q4
 have HB0 := Lib.hid hbw
 have HG : Hid (w.heap.size ≤ gs ∧ gr ≠ gs ∧ gl ≠ gs ∧ gi ≠ gs ∧ gc ≠ gs) := Lib.hid (by omega)
 have HGR : Hid (w.heap.size ≤ gr) := Lib.hid (by omega)
 clear hat hbw q0 q1 q2 q3 q4 hgl hgs hgi hgc hgr
 have l0 := blk_cell HQl.out 0 _ rfl
 have l1 := blk_cell HQl.out 1 _ rfl
 have l2 := blk_cell HQl.out 2 _ rfl
 have l3 := blk_cell HQl.out 3 _ rfl
 have m0 := blk_cell HQc.out 0 _ rfl
 have m1 := blk_cell HQc.out 1 _ rfl
 go_wp2_with fail
 have hbn := below1 W (.cells #[.int .u8 (kd : Int), .int .i64 nn] 74)
 have hqn := alloc1 W (.cells #[.int .u8 (kd : Int), .int .i64 nn] 74) (Below.refl _ _)
 refine (KR.out _ _ hqn).mono ?_
 rintro e w1 ⟨rfl, hb1⟩
 have HBW1 := Lib.hid (below_on hbn hb1)
 have HB1 := Lib.hid (below_on HB0.out HBW1.out)
 have HL1 := Lib.hid (blk_keep HBW1.out HQl.out)
 have HS1' := Lib.hid (blk_keep HBW1.out HQs.out)
 have HI1 := Lib.hid (blk_keep HBW1.out HQi.out)
 have HC1 := Lib.hid (blk_keep HBW1.out HQc.out)
 have HR1 := Lib.hid (blk_keep HBW1.out HQr.out)
 clear hbn hqn hb1 l0 l1 l2 l3 m0 m1 KR
 obtain ⟨PA, hPA⟩ : ∃ a, L.po.a = a := ⟨_, rfl⟩
 have hl3 := HL1.out
 have hrow := HPO.out
 rw [hPA] at hl3 hrow KNE0 ⊢
 rcases hrow with hnil | ⟨pb, po, hpb, hpc⟩
 ·have h9 := HXR.out; rw [hnil] at h9; cases h9
 subst hpb
 have HL1 := Lib.hid hl3
 have HP1 : Hid (w.cell? ⟨pb, po + n * 2 + 1, none⟩ = some (.int .i64 (q : Int))) := Lib.hid (hpc n _ HXR.out 1 _ rfl)
 have d1 : (0 : Int) ≤ n := by omega
 have d2 : (n : Int) < n2 := by have h := (List.getElem?_eq_some_iff.1 HXR.out).1; have := HN2.out; omega
 clear hPA hl3 hpc
 have hn := HNN.out
 subst hn
 have k1 : ((kd : Int) == 1) = false := by have := HKD.out; simp; omega
 have k2 : ((kd : Int) == 2) = false := by have := HKD.out; simp; omega
 have k3 : ((kd : Int) == 3) = true := by have := HKD.out; simp; omega
 have m0 := blk_cell HC1.out 0 _ rfl
 have KCLW : Hid (∀ w', Below w1.heap.size w1 w' → Calls Try.prog 60 #[.agg #[.int .u64 (oc : Int), .int .u32 (no : Int), .int .u32 (re : Int), .slice ia il ic], .int .i64 (q : Int)] w' fun e w'' => e = .returned (.bool (!bq)) ∧ Below w1.heap.size w1 w'') := Lib.hid (fun w' hw' => (KCL.out w').mono (fun _ _ h => ⟨h.1, below_on hw' h.2⟩))
 have KNEW : Hid (∀ w', Below w1.heap.size w1 w' → Calls Try.prog 61 #[.agg #[.slice L.se.a n1 L.se.c, .slice (some ⟨pb, po, none⟩) n2 L.po.c, .slice L.sg.a n3 L.sg.c, .slice L.rt.a n4 L.rt.c], .agg (stL s).toArray, .int .i64 (n : Int)] w' fun e w'' => e = .returned (.bool bn) ∧ Below w1.heap.size w1 w'') := Lib.hid (fun w' hw' => (KNE0.out w' (below_on HB1.out hw')).mono (fun _ _ h => ⟨h.1, below_on hw' h.2⟩))
 clear KCL KNE0
 cases bq with
 | true =>
   go_upto_region 17 with fail
   refine wp_region_calm (by kernel_rfl) ?_ ?_
   ·kernel_rfl
   repeat first
    | go_big_quiet_skip
    | (go_big_quiet_want
       with_reducible refine quiet_load_is (o := ⟨some 139, _, _, _, _, _⟩) 32 _ rfl _ _ ?_ (fun w' hw' => load_st (blk_keep hw' HS1'.out)) ?_
       ·rfl
       simp only [Act.put, List.setIfInBounds_toArray, List.set_cons_zero, List.set_cons_succ]
       go_big_quiet_on)
    | (go_big_quiet_want
       (first
         | ((with_reducible refine quiet_load_is (o := ⟨some 124, _, _, _, _, _⟩) 5 _ rfl (.pointer (some ⟨gc, 0, none⟩)) (.int .u8 (kd : Int)) ?_ ?_ ?_); (· rfl); (· intro w' hw'; have l := blk_cell (blk_keep hw' HC1.out) 0 _ rfl; go_simp))
         | ((with_reducible refine quiet_load_is (o := ⟨some 127, _, _, _, _, _⟩) 35 _ rfl (.pointer (some ⟨gi, 0, none⟩)) (.agg #[.int .u64 (oc : Int), .int .u32 (no : Int), .int .u32 (re : Int), .slice ia il ic]) ?_ ?_ ?_); (· rfl); (· intro w' hw'; have l0 := blk_cell (blk_keep hw' HI1.out) 0 _ rfl; have l1 := blk_cell (blk_keep hw' HI1.out) 1 _ rfl; have l2 := blk_cell (blk_keep hw' HI1.out) 2 _ rfl; have l3 := blk_cell (blk_keep hw' HI1.out) 3 _ rfl; go_simp))
         | ((with_reducible refine quiet_load_is (o := ⟨some 129, _, _, _, _, _⟩) 23 _ rfl (.pointer (some ⟨gl, 1, none⟩)) (.slice (some ⟨pb, po, none⟩) n2 L.po.c) ?_ ?_ ?_); (· rfl); (· intro w' hw'; have l := blk_cell (blk_keep hw' HL1.out) 1 _ rfl; go_simp))
         | ((with_reducible refine quiet_load_is (o := ⟨some 131, _, _, _, _, _⟩) 3 _ rfl (.pointer (some ⟨gc, 1, none⟩)) (.int .i64 (n : Int)) ?_ ?_ ?_); (· rfl); (· intro w' hw'; have l := blk_cell (blk_keep hw' HC1.out) 1 _ rfl; go_simp))
         | ((with_reducible refine quiet_load_is (o := ⟨some 134, _, _, _, _, _⟩) 3 _ rfl (.pointer (some ⟨pb, po + n * 2 + 1, none⟩)) (.int .i64 (q : Int)) ?_ ?_ ?_); (· rfl); (· intro w' hw'; have p1 := cell_later (below_on HB1.out hw') HP1.out; go_simp))
         | ((with_reducible refine quiet_load_is (o := ⟨some 138, _, _, _, _, _⟩) 27 _ rfl (.pointer (some ⟨gl, 0, none⟩)) (.agg #[.slice L.se.a n1 L.se.c, .slice (some ⟨pb, po, none⟩) n2 L.po.c, .slice L.sg.a n3 L.sg.c, .slice L.rt.a n4 L.rt.c]) ?_ ?_ ?_); (· rfl); (· intro w' hw'; have l0 := blk_cell (blk_keep hw' HL1.out) 0 _ rfl; have l1 := blk_cell (blk_keep hw' HL1.out) 1 _ rfl; have l2 := blk_cell (blk_keep hw' HL1.out) 2 _ rfl; have l3 := blk_cell (blk_keep hw' HL1.out) 3 _ rfl; go_simp))
         | ((with_reducible refine quiet_load_is (o := ⟨some 141, _, _, _, _, _⟩) 3 _ rfl (.pointer (some ⟨gc, 1, none⟩)) (.int .i64 (n : Int)) ?_ ?_ ?_); (· rfl); (· intro w' hw'; have l := blk_cell (blk_keep hw' HC1.out) 1 _ rfl; go_simp)))
       simp only [Act.put, List.setIfInBounds_toArray, List.set_cons_zero, List.set_cons_succ]
       go_big_quiet_on)
    | (go_big_quiet_want; go_big_quiet_op; go_big_quiet_on)
    | (with_reducible apply wpQuiet_step
       intro K hK
       go_simp
       first
        | (refine hK _ ?_; clear hK K)
        | (apply Exists.intro
           refine ⟨fun w' hw' => ?_, hK _ ?_⟩
           ·
            (first
             | with_reducible exact KCLW.out _ hw'
             | with_reducible exact KNEW.out _ hw'
             | (skip
                go_simp
                first | done | with_reducible exact rfl | with_reducible exact ⟨rfl, rfl⟩ | with_reducible exact KCLW.out _ hw' | with_reducible exact KNEW.out _ hw'))
           clear hK K))
   refine wpQuiet_nil ?_
   intro w7 hw7
   have HB7 := Lib.hid (below_on HB1.out hw7)
   have HRa := Lib.hid (blk_keep hw7 HR1.out)
   have HLa := Lib.hid (blk_keep hw7 HL1.out)
   have HIa := Lib.hid (blk_keep hw7 HI1.out)
   have HCa := Lib.hid (blk_keep hw7 HC1.out)
   have HSa := Lib.hid (blk_keep hw7 HS1'.out)
   have HBa := Lib.hid (below_on HB1.out hw7)
   clear hw7
   go_upto_region 19 with fail
   have HLD := Lib.hid (load_st HSa.out)
   obtain ⟨hst, hq9, ho9⟩ := store_st (s' := s) HRa.out
   have HST := Lib.hid hst
   have HQ9 := Lib.hid hq9
   have HB9 : Hid (Below w.heap.size w (w7.setCells gr 0 (stL s))) := Lib.hid (Only.below HBa.out HGR.out HBa.out.size ho9)
   clear hst hq9 ho9
   go_wp2_with (first
    | ((with_reducible refine wpList_load_is (op := ⟨some 152, _, _, _, _, _⟩) rfl 32 _ rfl _ _ ?_ HLD.out ?_); (· rfl))
    | ((with_reducible refine wpList_store_is (op := ⟨none, .store 32 _ _, _, _, _, _⟩) rfl 32 _ _ rfl _ _ ?_ ?_ _ HST.out ?_); (· rfl); (· rfl)))
   (try simp only [Exit.inBlock, Exit.then])
   refine bodyPost_ret (results_cell_row (g := gr) rfl _ _ 32 (stL s).toArray (0, 0) _ rfl HQ9.out Try.underlying32 rfl (by rw [List.size_toArray, st_len]; exact info_st)) rfl ?_
   exact ⟨by rw [HEQ.out]; rfl, HB9.out⟩
 | false =>
   cases bn with
   | true =>
     go_upto_region 17 with fail
     refine wp_region_calm (by kernel_rfl) ?_ ?_
     ·kernel_rfl
     repeat first
      | go_big_quiet_skip
      | (go_big_quiet_want
         with_reducible refine quiet_load_is (o := ⟨some 139, _, _, _, _, _⟩) 32 _ rfl _ _ ?_ (fun w' hw' => load_st (blk_keep hw' HS1'.out)) ?_
         ·rfl
         simp only [Act.put, List.setIfInBounds_toArray, List.set_cons_zero, List.set_cons_succ]
         go_big_quiet_on)
      | (go_big_quiet_want
         (first
           | ((with_reducible refine quiet_load_is (o := ⟨some 124, _, _, _, _, _⟩) 5 _ rfl (.pointer (some ⟨gc, 0, none⟩)) (.int .u8 (kd : Int)) ?_ ?_ ?_); (· rfl); (· intro w' hw'; have l := blk_cell (blk_keep hw' HC1.out) 0 _ rfl; go_simp))
           | ((with_reducible refine quiet_load_is (o := ⟨some 127, _, _, _, _, _⟩) 35 _ rfl (.pointer (some ⟨gi, 0, none⟩)) (.agg #[.int .u64 (oc : Int), .int .u32 (no : Int), .int .u32 (re : Int), .slice ia il ic]) ?_ ?_ ?_); (· rfl); (· intro w' hw'; have l0 := blk_cell (blk_keep hw' HI1.out) 0 _ rfl; have l1 := blk_cell (blk_keep hw' HI1.out) 1 _ rfl; have l2 := blk_cell (blk_keep hw' HI1.out) 2 _ rfl; have l3 := blk_cell (blk_keep hw' HI1.out) 3 _ rfl; go_simp))
           | ((with_reducible refine quiet_load_is (o := ⟨some 129, _, _, _, _, _⟩) 23 _ rfl (.pointer (some ⟨gl, 1, none⟩)) (.slice (some ⟨pb, po, none⟩) n2 L.po.c) ?_ ?_ ?_); (· rfl); (· intro w' hw'; have l := blk_cell (blk_keep hw' HL1.out) 1 _ rfl; go_simp))
           | ((with_reducible refine quiet_load_is (o := ⟨some 131, _, _, _, _, _⟩) 3 _ rfl (.pointer (some ⟨gc, 1, none⟩)) (.int .i64 (n : Int)) ?_ ?_ ?_); (· rfl); (· intro w' hw'; have l := blk_cell (blk_keep hw' HC1.out) 1 _ rfl; go_simp))
           | ((with_reducible refine quiet_load_is (o := ⟨some 134, _, _, _, _, _⟩) 3 _ rfl (.pointer (some ⟨pb, po + n * 2 + 1, none⟩)) (.int .i64 (q : Int)) ?_ ?_ ?_); (· rfl); (· intro w' hw'; have p1 := cell_later (below_on HB1.out hw') HP1.out; go_simp))
           | ((with_reducible refine quiet_load_is (o := ⟨some 138, _, _, _, _, _⟩) 27 _ rfl (.pointer (some ⟨gl, 0, none⟩)) (.agg #[.slice L.se.a n1 L.se.c, .slice (some ⟨pb, po, none⟩) n2 L.po.c, .slice L.sg.a n3 L.sg.c, .slice L.rt.a n4 L.rt.c]) ?_ ?_ ?_); (· rfl); (· intro w' hw'; have l0 := blk_cell (blk_keep hw' HL1.out) 0 _ rfl; have l1 := blk_cell (blk_keep hw' HL1.out) 1 _ rfl; have l2 := blk_cell (blk_keep hw' HL1.out) 2 _ rfl; have l3 := blk_cell (blk_keep hw' HL1.out) 3 _ rfl; go_simp))
           | ((with_reducible refine quiet_load_is (o := ⟨some 141, _, _, _, _, _⟩) 3 _ rfl (.pointer (some ⟨gc, 1, none⟩)) (.int .i64 (n : Int)) ?_ ?_ ?_); (· rfl); (· intro w' hw'; have l := blk_cell (blk_keep hw' HC1.out) 1 _ rfl; go_simp)))
         simp only [Act.put, List.setIfInBounds_toArray, List.set_cons_zero, List.set_cons_succ]
         go_big_quiet_on)
      | (go_big_quiet_want; go_big_quiet_op; go_big_quiet_on)
      | (with_reducible apply wpQuiet_step
         intro K hK
         go_simp
         first
          | (refine hK _ ?_; clear hK K)
          | (apply Exists.intro
             refine ⟨fun w' hw' => ?_, hK _ ?_⟩
             ·
              (first
               | with_reducible exact KCLW.out _ hw'
               | with_reducible exact KNEW.out _ hw'
               | (skip
                  go_simp
                  first | done | with_reducible exact rfl | with_reducible exact ⟨rfl, rfl⟩ | with_reducible exact KCLW.out _ hw' | with_reducible exact KNEW.out _ hw'))
             clear hK K))
     refine wpQuiet_nil ?_
     intro w7 hw7
     have HB7 := Lib.hid (below_on HB1.out hw7)
     have HRa := Lib.hid (blk_keep hw7 HR1.out)
     have HLa := Lib.hid (blk_keep hw7 HL1.out)
     have HIa := Lib.hid (blk_keep hw7 HI1.out)
     have HCa := Lib.hid (blk_keep hw7 HC1.out)
     have HSa := Lib.hid (blk_keep hw7 HS1'.out)
     have HBa := Lib.hid (below_on HB1.out hw7)
     clear hw7
     go_upto_region 19 with fail
     have HLD := Lib.hid (load_st HSa.out)
     obtain ⟨hst, hq9, ho9⟩ := store_st (s' := s) HRa.out
     have HST := Lib.hid hst
     have HQ9 := Lib.hid hq9
     have HB9 : Hid (Below w.heap.size w (w7.setCells gr 0 (stL s))) := Lib.hid (Only.below HBa.out HGR.out HBa.out.size ho9)
     clear hst hq9 ho9
     go_wp2_with (first
      | ((with_reducible refine wpList_load_is (op := ⟨some 152, _, _, _, _, _⟩) rfl 32 _ rfl _ _ ?_ HLD.out ?_); (· rfl))
      | ((with_reducible refine wpList_store_is (op := ⟨none, .store 32 _ _, _, _, _, _⟩) rfl 32 _ _ rfl _ _ ?_ ?_ _ HST.out ?_); (· rfl); (· rfl)))
     (try simp only [Exit.inBlock, Exit.then])
     refine bodyPost_ret (results_cell_row (g := gr) rfl _ _ 32 (stL s).toArray (0, 0) _ rfl HQ9.out Try.underlying32 rfl (by rw [List.size_toArray, st_len]; exact info_st)) rfl ?_
     exact ⟨by rw [HEQ.out]; rfl, HB9.out⟩
   | false =>
     go_upto_region 17 with fail
     refine wp_region_calm (by kernel_rfl) ?_ ?_
     ·kernel_rfl
     repeat first
      | go_big_quiet_skip
      | (go_big_quiet_want
         with_reducible refine quiet_load_is (o := ⟨some 139, _, _, _, _, _⟩) 32 _ rfl _ _ ?_ (fun w' hw' => load_st (blk_keep hw' HS1'.out)) ?_
         ·rfl
         simp only [Act.put, List.setIfInBounds_toArray, List.set_cons_zero, List.set_cons_succ]
         go_big_quiet_on)
      | (go_big_quiet_want
         (first
           | ((with_reducible refine quiet_load_is (o := ⟨some 124, _, _, _, _, _⟩) 5 _ rfl (.pointer (some ⟨gc, 0, none⟩)) (.int .u8 (kd : Int)) ?_ ?_ ?_); (· rfl); (· intro w' hw'; have l := blk_cell (blk_keep hw' HC1.out) 0 _ rfl; go_simp))
           | ((with_reducible refine quiet_load_is (o := ⟨some 127, _, _, _, _, _⟩) 35 _ rfl (.pointer (some ⟨gi, 0, none⟩)) (.agg #[.int .u64 (oc : Int), .int .u32 (no : Int), .int .u32 (re : Int), .slice ia il ic]) ?_ ?_ ?_); (· rfl); (· intro w' hw'; have l0 := blk_cell (blk_keep hw' HI1.out) 0 _ rfl; have l1 := blk_cell (blk_keep hw' HI1.out) 1 _ rfl; have l2 := blk_cell (blk_keep hw' HI1.out) 2 _ rfl; have l3 := blk_cell (blk_keep hw' HI1.out) 3 _ rfl; go_simp))
           | ((with_reducible refine quiet_load_is (o := ⟨some 129, _, _, _, _, _⟩) 23 _ rfl (.pointer (some ⟨gl, 1, none⟩)) (.slice (some ⟨pb, po, none⟩) n2 L.po.c) ?_ ?_ ?_); (· rfl); (· intro w' hw'; have l := blk_cell (blk_keep hw' HL1.out) 1 _ rfl; go_simp))
           | ((with_reducible refine quiet_load_is (o := ⟨some 131, _, _, _, _, _⟩) 3 _ rfl (.pointer (some ⟨gc, 1, none⟩)) (.int .i64 (n : Int)) ?_ ?_ ?_); (· rfl); (· intro w' hw'; have l := blk_cell (blk_keep hw' HC1.out) 1 _ rfl; go_simp))
           | ((with_reducible refine quiet_load_is (o := ⟨some 134, _, _, _, _, _⟩) 3 _ rfl (.pointer (some ⟨pb, po + n * 2 + 1, none⟩)) (.int .i64 (q : Int)) ?_ ?_ ?_); (· rfl); (· intro w' hw'; have p1 := cell_later (below_on HB1.out hw') HP1.out; go_simp))
           | ((with_reducible refine quiet_load_is (o := ⟨some 138, _, _, _, _, _⟩) 27 _ rfl (.pointer (some ⟨gl, 0, none⟩)) (.agg #[.slice L.se.a n1 L.se.c, .slice (some ⟨pb, po, none⟩) n2 L.po.c, .slice L.sg.a n3 L.sg.c, .slice L.rt.a n4 L.rt.c]) ?_ ?_ ?_); (· rfl); (· intro w' hw'; have l0 := blk_cell (blk_keep hw' HL1.out) 0 _ rfl; have l1 := blk_cell (blk_keep hw' HL1.out) 1 _ rfl; have l2 := blk_cell (blk_keep hw' HL1.out) 2 _ rfl; have l3 := blk_cell (blk_keep hw' HL1.out) 3 _ rfl; go_simp))
           | ((with_reducible refine quiet_load_is (o := ⟨some 141, _, _, _, _, _⟩) 3 _ rfl (.pointer (some ⟨gc, 1, none⟩)) (.int .i64 (n : Int)) ?_ ?_ ?_); (· rfl); (· intro w' hw'; have l := blk_cell (blk_keep hw' HC1.out) 1 _ rfl; go_simp)))
         simp only [Act.put, List.setIfInBounds_toArray, List.set_cons_zero, List.set_cons_succ]
         go_big_quiet_on)
      | (go_big_quiet_want; go_big_quiet_op; go_big_quiet_on)
      | (with_reducible apply wpQuiet_step
         intro K hK
         go_simp
         first
          | (refine hK _ ?_; clear hK K)
          | (apply Exists.intro
             refine ⟨fun w' hw' => ?_, hK _ ?_⟩
             ·
              (first
               | with_reducible exact KCLW.out _ hw'
               | with_reducible exact KNEW.out _ hw'
               | (skip
                  go_simp
                  first | done | with_reducible exact rfl | with_reducible exact ⟨rfl, rfl⟩ | with_reducible exact KCLW.out _ hw' | with_reducible exact KNEW.out _ hw'))
             clear hK K))
     refine wpQuiet_nil ?_
     intro w7 hw7
     have HB7 := Lib.hid (below_on HB1.out hw7)
     have HRa := Lib.hid (blk_keep hw7 HR1.out)
     have HLa := Lib.hid (blk_keep hw7 HL1.out)
     have HIa := Lib.hid (blk_keep hw7 HI1.out)
     have HCa := Lib.hid (blk_keep hw7 HC1.out)
     have HSa := Lib.hid (blk_keep hw7 HS1'.out)
     have HBa := Lib.hid (below_on HB1.out hw7)
     clear hw7
     go_upto_region 18 with fail
     refine wp_region_rel (by kernel_rfl) [7] 10 [0, 1, 2, 3, 4, 5, 6] [145, 146, 147, 148, 149, 150, 151] #[true, true, true, true, true, true, true, false] 1 [(fun v _ => v = .pointer (some ⟨gs, 67, none⟩)), (fun v _ => v = .int .u32 (s.pt : Int)), (fun v _ => v = .pointer (some ⟨gc, 1, none⟩)), (fun v _ => v = .int .i64 (n : Int)), (fun v _ => v = .int .u32 ((pw n : Nat) : Int)), (fun v _ => v = .int .u32 ((flipB s.pt n : Nat) : Int)), (fun v _ => v = .pointer (some ⟨gs, 67, none⟩)), (fun _ _ => True)] (by kernel_rfl) (by kernel_rfl) (by kernel_rfl) (by kernel_rfl) (by kernel_rfl) rfl (by kernel_rfl) rfl ?_ ?_ ?_
     ·exact ⟨stays_is _, stays_is _, stays_is _, stays_is _, stays_is _, stays_is _, stays_is _, stays_true, trivial⟩
     ·refine ⟨?_, ?_, ?_, ?_, ?_, ?_, ?_, trivial⟩
      ·refine relOb_mk (o := ⟨some 145, _, _, _, _, _⟩) rfl (fun r V hc hf hg hs hb hd => ?_)
       have x5 : r (.tmp 5) = .pointer (some ⟨gs, 0, none⟩) := hs 5 (by kernel_rfl)
       clear hs hd hg
       go_simp
       exact ⟨Below.refl _ _, rfl⟩
      ·refine relOb_mk (o := ⟨some 146, _, _, _, _, _⟩) rfl (fun r V hc hf hg hs hb hd => ?_)
       have h0 : r (.tmp 145) = .pointer (some ⟨gs, 67, none⟩) := hd 0 145 rfl (by kernel_rfl)
       clear hs hd hg
       have l := blk_cell (blk_keep hb HSa.out) 67 _ (st_67 _)
       go_simp
       exact ⟨Below.refl _ _, rfl⟩
      ·refine relOb_mk (o := ⟨some 147, _, _, _, _, _⟩) rfl (fun r V hc hf hg hs hb hd => ?_)
       have x7 : r (.tmp 7) = .pointer (some ⟨gc, 0, none⟩) := hs 7 (by kernel_rfl)
       clear hs hd hg
       go_simp
       exact ⟨Below.refl _ _, rfl⟩
      ·refine relOb_mk (o := ⟨some 148, _, _, _, _, _⟩) rfl (fun r V hc hf hg hs hb hd => ?_)
       have h2 : r (.tmp 147) = .pointer (some ⟨gc, 1, none⟩) := hd 2 147 rfl (by kernel_rfl)
       clear hs hd hg
       have l := blk_cell (blk_keep hb HCa.out) 1 _ rfl
       go_simp
       exact ⟨Below.refl _ _, rfl⟩
      ·refine relOb_mk (o := ⟨some 149, _, _, _, _, _⟩) rfl (fun r V hc hf hg hs hb hd => ?_)
       have h3 : r (.tmp 148) = .int .i64 (n : Int) := hd 3 148 rfl (by kernel_rfl)
       clear hs hd hg
       have h31 := HN31.out
       have h0 : (0 : Int) ≤ n := by omega
       have h1 : min n 32 = n := by omega
       have h2 : ¬ (32 : Int) ≤ n := by omega
       have hs1 := shl32 h31
       go_simp
       exact ⟨Below.refl _ _, by simp⟩
      ·refine relOb_mk (o := ⟨some 150, _, _, _, _, _⟩) rfl (fun r V hc hf hg hs hb hd => ?_)
       have h1 : r (.tmp 146) = .int .u32 (s.pt : Int) := hd 1 146 rfl (by kernel_rfl)
       have h4 : r (.tmp 149) = .int .u32 ((pw n : Nat) : Int) := hd 4 149 rfl (by kernel_rfl)
       clear hs hd hg
       have ho1 := xor_step32 HN31.out HSO.out.pt
       go_simp
       exact ⟨Below.refl _ _, rfl⟩
      ·refine relOb_mk (o := ⟨some 151, _, _, _, _, _⟩) rfl (fun r V hc hf hg hs hb hd => ?_)
       have x5 : r (.tmp 5) = .pointer (some ⟨gs, 0, none⟩) := hs 5 (by kernel_rfl)
       clear hs hd hg
       go_simp
       exact ⟨Below.refl _ _, rfl⟩
     ·intro a V hb hx
      have h0 : a.eval (.tmp 145) = .pointer (some ⟨gs, 67, none⟩) := hx 0 145 rfl rfl
      have h1 : a.eval (.tmp 146) = .int .u32 (s.pt : Int) := hx 1 146 rfl rfl
      have h2 : a.eval (.tmp 147) = .pointer (some ⟨gc, 1, none⟩) := hx 2 147 rfl rfl
      have h3 : a.eval (.tmp 148) = .int .i64 (n : Int) := hx 3 148 rfl rfl
      have h4 : a.eval (.tmp 149) = .int .u32 ((pw n : Nat) : Int) := hx 4 149 rfl rfl
      have h5 : a.eval (.tmp 150) = .int .u32 ((flipB s.pt n : Nat) : Int) := hx 5 150 rfl rfl
      have h6 : a.eval (.tmp 151) = .pointer (some ⟨gs, 67, none⟩) := hx 6 151 rfl rfl
      unfold fillAll
      simp only [List.foldl_cons, List.foldl_nil, h0, h1, h2, h3, h4, h5, h6, Act.put, List.setIfInBounds_toArray, List.set_cons_zero, List.set_cons_succ]
      clear h0 h1 h2 h3 h4 h5 h6 hx
      have HSV := Lib.hid (blk_keep hb HSa.out)
      have HRV := Lib.hid (blk_keep hb HRa.out)
      have HLV := Lib.hid (blk_keep hb HLa.out)
      have HIV := Lib.hid (blk_keep hb HIa.out)
      have HCV := Lib.hid (blk_keep hb HCa.out)
      have HBV := Lib.hid (below_on HBa.out hb)
      clear hb HBa HSa HRa HLa HIa HCa
      refine wpAny_ready (rs := [7]) (by kernel_rfl) (by simp) (AllReady.cons (o := ⟨none, _, _, _, _, _⟩) rfl (fun K hK => ?_) AllReady.nil)
      have c0 := blk_cell HSV.out 67 _ (st_67 _)
      have f0 := blk_free HSV.out 67
      have hl := blk_lt HSV.out
      go_simp
      clear c0 f0 hl
      refine name_K ?_
      intro V3 hV3
      have ho : Only gs V V3 := by rw [hV3]; exact (Only.refl gs V).setCell rfl _
      have HSb : Hid (V3.heap[gs]? = some (.cells (stL { s with pt := flipB s.pt n }).toArray 32)) := Lib.hid (by rw [hV3]; exact (blk_set HSV.out 67 _).trans (congrArg (fun C => some (Obj.cells C 32)) (st_spt _ _)))
      have HBb : Hid (Below w.heap.size w V3) := Lib.hid (Only.below HBV.out HG.out.1 HBV.out.size ho)
      have HRb := Lib.hid (Only.keep ho HG.out.2.1 HRV.out)
      have HLb := Lib.hid (Only.keep ho HG.out.2.2.1 HLV.out)
      have HIb := Lib.hid (Only.keep ho HG.out.2.2.2.1 HIV.out)
      have HCb := Lib.hid (Only.keep ho HG.out.2.2.2.2 HCV.out)
      clear hV3 ho HSV HBV HRV HLV HIV HCV
      refine hK _ _ ?_
      clear hK K
      refine wpAny_done (by kernel_rfl) ?_ _
      go_upto_region 19 with fail
      have HLD := Lib.hid (load_st HSb.out)
      obtain ⟨hst, hq9, ho9⟩ := store_st (s' := { s with pt := flipB s.pt n }) HRb.out
      have HST := Lib.hid hst
      have HQ9 := Lib.hid hq9
      have HB9 : Hid (Below w.heap.size w (V3.setCells gr 0 (stL { s with pt := flipB s.pt n }))) := Lib.hid (Only.below HBb.out HGR.out HBb.out.size ho9)
      clear hst hq9 ho9
      go_wp2_with (first
       | ((with_reducible refine wpList_load_is (op := ⟨some 152, _, _, _, _, _⟩) rfl 32 _ rfl _ _ ?_ HLD.out ?_); (· rfl))
       | ((with_reducible refine wpList_store_is (op := ⟨none, .store 32 _ _, _, _, _, _⟩) rfl 32 _ _ rfl _ _ ?_ ?_ _ HST.out ?_); (· rfl); (· rfl)))
      (try simp only [Exit.inBlock, Exit.then])
      refine bodyPost_ret (results_cell_row (g := gr) rfl _ _ 32 (stL { s with pt := flipB s.pt n }).toArray (0, 0) _ rfl HQ9.out Try.underlying32 rfl (by rw [List.size_toArray, st_len]; exact info_st)) rfl ?_
      exact ⟨by rw [HEQ.out]; rfl, HB9.out⟩
end Go.Proofs.Ytjienmjpfklgeaa
