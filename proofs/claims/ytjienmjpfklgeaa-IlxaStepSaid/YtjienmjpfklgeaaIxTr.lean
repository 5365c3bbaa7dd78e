/-
 Layer 10: the document's route.
-/
import Derived.Test.YtjienmjpfklgeaaIxT
namespace Go.Proofs.Ytjienmjpfklgeaa
open Go.RowKit
set_option maxRecDepth 100000
attribute [local irreducible] Sl.v hasBit pw withBit woBit cyL stL stV tmL freeS ndBad maySet ptL setS mayCan canS canD nedS flipB mayMov movS comG relS rouS proS tidyS comsG rousS prosS nextG outS lnOk rightK rgtS eqS Mc.tb upd mayS checkS sideN
attribute [local irreducible] tbL rwL secOf cofL Rt.tr Rt.nd conflictS pairS formedS
attribute [local irreducible] mskS

set_option maxHeartbeats 16000000 in
theorem droute_is (L : Lay) (s : St) (oc no re : Nat) (ia : Option Addr) (il ic : Nat) (n u : Nat) (x : Rt) (w : World) (hL : LayAt w L) (hc : (checkS L).1 = 0) (hs : s.ok) (ho : oc < 18446744073709551616) (hu : u < 18446744073709551616) (hx : L.rt.l[n]? = some x) :
 Calls Try.prog 30 #[.agg #[L.se.v, L.po.v, L.sg.v, L.rt.v], .agg (stL s).toArray, .agg #[.int .u64 (oc : Int), .int .u32 (no : Int), .int .u32 (re : Int), .slice ia il ic], .int .i64 (n : Int), .int .u64 (u : Int)] w fun e w' => e = .returned (.agg (stL (rouS s oc u n (rwL L n x))).toArray) ∧ Below w.heap.size w w' := by
 have HMAY : Hid (mayS L = true) := Lib.hid (cs_zero hc)
 have HS4 : Hid (L.rt.l.length ≤ 64) := Lib.hid (mayS_small (cs_zero hc)).2.2.2
 have HCK := Lib.hid hc
 have h63 : n ≤ 63 := by have h1 := (List.getElem?_eq_some_iff.1 hx).1; have := HS4.out; omega
 have hxm := List.mem_of_getElem? hx
 have hf := t_pa (t_formed HCK.out x hxm)
 obtain ⟨q0, qs, hpa⟩ : ∃ a l, x.pa.l = a :: l := by
  cases h : x.pa.l with
  | nil => exact absurd h hf
  | cons a l => exact ⟨a, l, rfl⟩
 have hq0 : 0 ≤ q0 ∧ q0 ≤ 63 := by
  have h := t_tr HMAY.out x hxm q0 (by unfold Rt.tr; rw [hpa]; exact List.mem_append_left _ List.mem_cons_self)
  have := (mayS_small HMAY.out).1; omega
 obtain ⟨q, rfl⟩ : ∃ q : Nat, q0 = q := ⟨q0.toNat, by omega⟩
 have HFI : Hid ((rwL L n x).fi = (q : Int)) := Lib.hid (by rw [rwl_fi, hpa]; rfl)
 obtain ⟨bu, hbu⟩ : ∃ b, hasBit u n = b := ⟨_, rfl⟩
 obtain ⟨bf, hbf⟩ : ∃ b, freeS oc (rwL L n x) = b := ⟨_, rfl⟩
 obtain ⟨bi, hbi⟩ : ∃ b, hasBit oc q = b := ⟨_, rfl⟩
 obtain ⟨bc, hbc⟩ : ∃ b, hasBit s.ca n = b := ⟨_, rfl⟩
 have KHU : Hid (∀ V, Calls Try.prog 22 #[.int .u64 (u : Int), .int .i64 (n : Int)] V fun e w' => e = .returned (.bool bu) ∧ Below V.heap.size V w') := Lib.hid (fun V => dhas_is bu u n V h63 hu hbu)
 have KHC : Hid (∀ V, Calls Try.prog 22 #[.int .u64 (s.ca : Int), .int .i64 (n : Int)] V fun e w' => e = .returned (.bool bc) ∧ Below V.heap.size V w') := Lib.hid (fun V => dhas_is bc s.ca n V h63 hs.ca hbc)
 have HU := Lib.hid hbu
 have HFR := Lib.hid hbf
 have HF1 : Hid (hasBit oc (rwL L n x).fi.toNat = bi) := Lib.hid (by rw [HFI.out, Int.toNat_natCast]; exact hbi)
 have HCA := Lib.hid hbc
 have HN63 := Lib.hid h63
 have HN64 : Hid (n < 64) := Lib.hid (by omega)
 have HSO := Lib.hid hs
 have HOC := Lib.hid ho
 obtain ⟨n1, hn1⟩ : ∃ n, L.se.l.length = n := ⟨_, rfl⟩
 obtain ⟨n2, hn2⟩ : ∃ n, L.po.l.length = n := ⟨_, rfl⟩
 obtain ⟨n3, hn3⟩ : ∃ n, L.sg.l.length = n := ⟨_, rfl⟩
 obtain ⟨n4, hn4⟩ : ∃ n, L.rt.l.length = n := ⟨_, rfl⟩
 have HLW := Lib.hid hL
 have HN1 := Lib.hid hn1
 have HN2 := Lib.hid hn2
 have HN3 := Lib.hid hn3
 have HN4 := Lib.hid hn4
 have HNLT : Hid (n < n4) := Lib.hid (by rw [← hn4]; exact (List.getElem?_eq_some_iff.1 hx).1)
 rw [slv hn1, slv hn2, slv hn3, slv hn4]
 have HXR := Lib.hid hx
 have hxa := hL.rn x hxm
 clear hn1 hn2 hn3 hn4 hL hc hs ho hu hbu hbc hf h63
 obtain ⟨p1, hp1⟩ : ∃ n, x.pa.l.length = n := ⟨_, rfl⟩
 obtain ⟨p2, hp2⟩ : ∃ n, x.po.l.length = n := ⟨_, rfl⟩
 obtain ⟨p3, hp3⟩ : ∃ n, x.ov.l.length = n := ⟨_, rfl⟩
 obtain ⟨p4, hp4⟩ : ∃ n, x.fl.l.length = n := ⟨_, rfl⟩
 have HPL : Hid (0 < p1) := Lib.hid (by rw [← hp1, hpa]; simp)
 go_enter Try.func30, Try.ntmps30
 go_upto_region 1 with fail
 rw [zero_st]
 refine name_last (os := [.cells #[.slice L.se.a n1 L.se.c, .slice L.po.a n2 L.po.c, .slice L.sg.a n3 L.sg.c, .slice L.rt.a n4 L.rt.c] 27, .cells (stL s).toArray 32, .cells #[.int .u64 (oc : Int), .int .u32 (no : Int), .int .u32 (re : Int), .slice ia il ic] 35, .cells (stL zS).toArray 32]) (w0 := w) rfl ?_
 intro W hat hbw
 obtain ⟨gl, hgl⟩ : ∃ g, g = w.heap.size := ⟨_, rfl⟩
 have q0 := hat 0 _ rfl
 obtain ⟨gs, hgs⟩ : ∃ g, g = gl + 1 := ⟨_, rfl⟩
 have q1 := hat 1 _ rfl
 obtain ⟨gi, hgi⟩ : ∃ g, g = gs + 1 := ⟨_, rfl⟩
 have q2 := hat 2 _ rfl
 obtain ⟨gr, hgr⟩ : ∃ g, g = gi + 1 := ⟨_, rfl⟩
 have q3 := hat 3 _ rfl
 rw [Nat.add_zero, ← hgl] at q0
 rw [← hgl, ← hgs] at q1
 rw [← hgl, show gl + 2 = gi by omega] at q2
 rw [← hgl, show gl + 3 = gr by omega] at q3
 rw [← hgl, ← hgs, ← hgi, ← hgr]
 have HQl := Lib.hid q0
 have HQs := Lib.hid q1
 have HQi := Lib.hid q2
 have HQr := Lib.hid q3
 have HB0 := Lib.hid hbw
 have HG : Hid (w.heap.size ≤ gs ∧ gr ≠ gs) := Lib.hid (by omega)
 have HGR : Hid (w.heap.size ≤ gr) := Lib.hid (by omega)
 clear hat hbw q0 q1 q2 q3 hgl hgs hgi hgr
 have HBX := HB0
 have KFR : Hid (∀ V, Below W.heap.size W V → Calls Try.prog 62 #[.agg #[.string x.nm, .int .i64 x.sg, .slice x.pa.a p1 x.pa.c, .slice x.po.a p2 x.po.c, .slice x.ov.a p3 x.ov.c, .slice x.fl.a p4 x.fl.c], .agg #[.int .u64 (oc : Int), .int .u32 (no : Int), .int .u32 (re : Int), .slice ia il ic]] V fun e w' => e = .returned (.bool bf) ∧ Below V.heap.size V w') := Lib.hid (fun V hV => by
  have ok := mayS_rt HMAY.out x hxm
  have h := dfree_is (!bf) oc no re ia il ic x V ((HLW.out.rn x hxm).below (below_on HBX.out hV)) (by have := ok.pa; have := ok.ov; omega) (fun k hk => by have h := t_tr HMAY.out x hxm k hk; have := (mayS_small HMAY.out).1; omega) HOC.out (by rw [free_rw] at hbf; rw [← hbf, Bool.not_not])
  rw [slv hp1, slv hp2, slv hp3, slv hp4, Bool.not_not] at h
  exact h)
 rcases HLW.out.rt.row with hnil | ⟨xb, off, hxb, hc0⟩
 ·rw [hnil] at hx; cases hx
 have hc := fun i c hi j v hv => cell_later HB0.out (hc0 i c hi j v hv)
 have hyx := hx
 have z0 := hc n _ hyx 0 _ rfl
 have z1 := hc n _ hyx 1 _ rfl
 have z2 := hc n _ hyx 2 _ rfl
 have z3 := hc n _ hyx 3 _ rfl
 have z4 := hc n _ hyx 4 _ rfl
 have z5 := hc n _ hyx 5 _ rfl
 rw [Nat.add_zero] at z0
 rw [slv hp1] at z2
 rw [slv hp2] at z3
 rw [slv hp3] at z4
 rw [slv hp4] at z5
 have KCL0 : Hid (∀ V, Calls Try.prog 60 #[.agg #[.int .u64 (oc : Int), .int .u32 (no : Int), .int .u32 (re : Int), .slice ia il ic], .int .i64 (q : Int)] V fun e w'' => e = .returned (.bool (!bi)) ∧ Below V.heap.size V w'') := Lib.hid (fun V => dclear_is bi oc no re ia il ic q V (by omega) HOC.out hbi)
 obtain ⟨PA, hPA⟩ : ∃ a, x.pa.a = a := ⟨_, rfl⟩
 have hr1 := hxa.pa.row
 rw [hPA, hpa] at hr1
 rw [hPA] at z2 KFR
 rcases hr1 with hnil | ⟨pb, po, hpb, hpc⟩
 ·cases hnil
 subst hpb
 have HP0 : Hid (W.cell? ⟨pb, po, none⟩ = some (.int .i64 (q : Int))) := Lib.hid (by have := cell_later HB0.out (hpc 0 (q : Int) rfl 0 _ rfl); simpa using this)
 have hl := blk_cell HQl.out 3 _ rfl
 rw [hxb] at hl
 have d1 : (0 : Int) ≤ n := by omega
 have d2 : (n : Int) < n4 := by have := HNLT.out; omega
 clear hx hyx hxa hc hc0 hxb hpc hPA hpa hq0 hbf hbi hp1 hp2 hp3 hp4 hxm
 go_upto_region 2 with fail
 have hbn := below1 W (.cells #[.string x.nm, .int .i64 x.sg, .slice (some ⟨pb, po, none⟩) p1 x.pa.c, .slice x.po.a p2 x.po.c, .slice x.ov.a p3 x.ov.c, .slice x.fl.a p4 x.fl.c] 44)
 have hqn := alloc1 W (.cells #[.string x.nm, .int .i64 x.sg, .slice (some ⟨pb, po, none⟩) p1 x.pa.c, .slice x.po.a p2 x.po.c, .slice x.ov.a p3 x.ov.c, .slice x.fl.a p4 x.fl.c] 44) (Below.refl _ _)
 obtain ⟨V, hV⟩ : ∃ V, V = W.alloc (.cells #[.string x.nm, .int .i64 x.sg, .slice (some ⟨pb, po, none⟩) p1 x.pa.c, .slice x.po.a p2 x.po.c, .slice x.ov.a p3 x.ov.c, .slice x.fl.a p4 x.fl.c] 44) := ⟨_, rfl⟩
 rw [← hV] at hbn hqn ⊢
 obtain ⟨gx, hgx⟩ : ∃ g, g = W.heap.size := ⟨_, rfl⟩
 rw [← hgx] at hqn ⊢
 have HBV := Lib.hid (below_on HB0.out hbn)
 have HBW := Lib.hid hbn
 have HQX := Lib.hid hqn
 have HS1 := Lib.hid (blk_keep hbn HQs.out)
 have HI1 := Lib.hid (blk_keep hbn HQi.out)
 have HR1 := Lib.hid (blk_keep hbn HQr.out)
 clear hbn hqn hV hgx z0 z1 z2 z3 z4 z5 hl d1 d2
 go_wp2_with fail
 refine (KHU.out _).mono ?_
 rintro e w1 ⟨rfl, hb1⟩
 have HB1 := Lib.hid (below_on HBV.out hb1)
 have HBW1 := Lib.hid (below_on HBW.out hb1)
 have HQX1 := Lib.hid (blk_keep hb1 HQX.out)
 have HS2 := Lib.hid (blk_keep hb1 HS1.out)
 have HI2 := Lib.hid (blk_keep hb1 HI1.out)
 have HR2 := Lib.hid (blk_keep hb1 HR1.out)
 clear hb1 HQX HS1 HI1 HR1 KHU
 cases bu with
 | true =>
   have l0 := blk_cell HQX1.out 0 _ rfl
   have l1 := blk_cell HQX1.out 1 _ rfl
   have l2 := blk_cell HQX1.out 2 _ rfl
   have l3 := blk_cell HQX1.out 3 _ rfl
   have l4 := blk_cell HQX1.out 4 _ rfl
   have l5 := blk_cell HQX1.out 5 _ rfl
   have m0 := blk_cell HI2.out 0 _ rfl
   have m1 := blk_cell HI2.out 1 _ rfl
   have m2 := blk_cell HI2.out 2 _ rfl
   have m3 := blk_cell HI2.out 3 _ rfl
   go_wp2_with fail
   refine (KFR.out _ HBW1.out).mono ?_
   rintro e w2 ⟨rfl, hb2⟩
   have HB2 := Lib.hid (below_on HB1.out hb2)
   have HS3 := Lib.hid (blk_keep hb2 HS2.out)
   have HR3 := Lib.hid (blk_keep hb2 HR2.out)
   clear hb2 l0 l1 l2 l3 l4 l5 m0 m1 m2 m3
   cases bf with
   | true =>
     go_upto_region 4 with fail
     have HLD := Lib.hid (load_st HS3.out)
     go_wp2_with (first
      | ((with_reducible refine wpList_load_is (op := ⟨some 24, _, _, _, _, _⟩) rfl 32 _ rfl _ _ ?_ HLD.out ?_); (· rfl)))
     refine (drel_is s n _ HN63.out HSO.out).mono ?_
     rintro e wz ⟨rfl, hbz⟩
     have HRZ := Lib.hid (blk_keep hbz HR3.out)
     have HBZ := Lib.hid (below_on HB2.out hbz)
     clear hbz
     obtain ⟨hst, hq9, ho9⟩ := store_st (s' := relS s n) HRZ.out
     have HST := Lib.hid hst
     have HQ9 := Lib.hid hq9
     have HB9 : Hid (Below w.heap.size w (wz.setCells gr 0 (stL (relS s n)))) := Lib.hid (Only.below HBZ.out HGR.out HBZ.out.size ho9)
     clear hst hq9 ho9
     go_wp2_with (first
      | ((with_reducible refine wpList_store_is (op := ⟨none, .store 32 _ _, _, _, _, _⟩) rfl 32 _ _ rfl _ _ ?_ ?_ _ HST.out ?_); (· rfl); (· rfl)))
     (try simp only [Exit.inBlock, Exit.then])
     refine bodyPost_ret (results_cell_row (g := gr) rfl _ _ 32 (stL (relS s n)).toArray (0, 0) _ rfl HQ9.out Try.underlying32 rfl (by rw [List.size_toArray, st_len]; exact info_st)) rfl ?_
     rw [rou_1 HU.out, HFR.out, if_pos rfl]
     exact ⟨rfl, HB9.out⟩
   | false =>
     go_upto_region 11 with fail
     have HLD := Lib.hid (load_st HS3.out)
     obtain ⟨hst, hq9, ho9⟩ := store_st (s' := s) HR3.out
     have HST := Lib.hid hst
     have HQ9 := Lib.hid hq9
     have HB9 : Hid (Below w.heap.size w (w2.setCells gr 0 (stL s))) := Lib.hid (Only.below HB2.out HGR.out HB2.out.size ho9)
     clear hst hq9 ho9
     go_wp2_with (first
      | ((with_reducible refine wpList_load_is (op := ⟨some 73, _, _, _, _, _⟩) rfl 32 _ rfl _ _ ?_ HLD.out ?_); (· rfl))
      | ((with_reducible refine wpList_store_is (op := ⟨none, .store 32 _ _, _, _, _, _⟩) rfl 32 _ _ rfl _ _ ?_ ?_ _ HST.out ?_); (· rfl); (· rfl)))
     (try simp only [Exit.inBlock, Exit.then])
     refine bodyPost_ret (results_cell_row (g := gr) rfl _ _ 32 (stL s).toArray (0, 0) _ rfl HQ9.out Try.underlying32 rfl (by rw [List.size_toArray, st_len]; exact info_st)) rfl ?_
     exact ⟨by rw [rou_1 HU.out, HFR.out]; rfl, HB9.out⟩
 | false =>
   have KCL : Hid (∀ w', Below w1.heap.size w1 w' → Calls Try.prog 60 #[.agg #[.int .u64 (oc : Int), .int .u32 (no : Int), .int .u32 (re : Int), .slice ia il ic], .int .i64 (q : Int)] w' fun e w'' => e = .returned (.bool (!bi)) ∧ Below w1.heap.size w1 w'') := Lib.hid (fun w' hw' => (KCL0.out w').mono (fun _ _ h => ⟨h.1, below_on hw' h.2⟩))
   go_upto_region 5 with fail
   refine wp_region_calm (by kernel_rfl) ?_ ?_
   ·kernel_rfl
   repeat first
    | go_big_quiet_skip
    | (go_big_quiet_want; go_big_quiet_op; go_big_quiet_on)
    | (with_reducible apply wpQuiet_step
       intro K hK
       go_simp
       first
        | (refine hK _ ?_; clear hK K)
        | (apply Exists.intro
           refine ⟨fun w' hw' => ?_, hK _ ?_⟩
           ·
            (first
             | with_reducible exact KCL.out _ hw'
             | (have g0 := blk_cell (blk_keep hw' HI2.out) 0 _ rfl
                have g1 := blk_cell (blk_keep hw' HI2.out) 1 _ rfl
                have g2 := blk_cell (blk_keep hw' HI2.out) 2 _ rfl
                have g3 := blk_cell (blk_keep hw' HI2.out) 3 _ rfl
                go_simp
                first | done | with_reducible exact rfl | with_reducible exact ⟨rfl, rfl⟩ | with_reducible exact KCL.out _ hw')
             | (have g0 := blk_cell (blk_keep hw' HQX1.out) 0 _ rfl
                have g1 := blk_cell (blk_keep hw' HQX1.out) 1 _ rfl
                have g2 := blk_cell (blk_keep hw' HQX1.out) 2 _ rfl
                have g3 := blk_cell (blk_keep hw' HQX1.out) 3 _ rfl
                have g4 := blk_cell (blk_keep hw' HQX1.out) 4 _ rfl
                have g5 := blk_cell (blk_keep hw' HQX1.out) 5 _ rfl
                go_simp
                first | done | with_reducible exact rfl | with_reducible exact ⟨rfl, rfl⟩ | with_reducible exact KCL.out _ hw')
             | (have t0 := cell_later (below_on HBW1.out hw') HP0.out
                go_simp
                first | done | with_reducible exact rfl | with_reducible exact ⟨rfl, rfl⟩ | with_reducible exact KCL.out _ hw')
             | (have hpl := HPL.out
                go_simp
                first | done | with_reducible exact rfl | with_reducible exact ⟨rfl, rfl⟩ | with_reducible exact KCL.out _ hw'))
           clear hK K))
   refine wpQuiet_nil ?_
   intro w7 hw7
   have HB7 := Lib.hid (below_on HB1.out hw7)
   have HS4 := Lib.hid (blk_keep hw7 HS2.out)
   have HR4 := Lib.hid (blk_keep hw7 HR2.out)
   have HI4 := Lib.hid (blk_keep hw7 HI2.out)
   have HQ4 := Lib.hid (blk_keep hw7 HQX1.out)
   have HBW7 := Lib.hid (below_on HBW1.out hw7)
   clear hw7
   clear KCL KCL0 HS2 HR2 HI2 HQX1
   cases bi with
   | true =>
     have HS5 := HS4
     have HB5 := HB7
     have HR5 := HR4
     go_upto_region 6 with fail
     refine wp_region_rel (by kernel_rfl) [6] 9 [0, 1, 2, 3, 4, 5] [35, 36, 37, 38, 39, 40] #[true, true, true, true, true, true, false] 1 [(fun v _ => v = .pointer (some ⟨gs, 1, none⟩)), (fun v _ => v = .int .u64 (s.us : Int)), (fun v _ => v = .int .i64 (n : Int)), (fun v _ => v = .int .u64 (pw n : Int)), (fun v _ => v = .int .u64 ((withBit s.us n : Nat) : Int)), (fun v _ => v = .pointer (some ⟨gs, 1, none⟩)), (fun _ _ => True)] (by kernel_rfl) (by kernel_rfl) (by kernel_rfl) (by kernel_rfl) (by kernel_rfl) rfl (by kernel_rfl) rfl ?_ ?_ ?_
     ·exact ⟨stays_is _, stays_is _, stays_is _, stays_is _, stays_is _, stays_is _, stays_true, trivial⟩
     ·refine ⟨?_, ?_, ?_, ?_, ?_, ?_, trivial⟩
      ·refine relOb_mk (o := ⟨some 35, _, _, _, _, _⟩) rfl (fun r V hc hf hg hs hb hd => ?_)
       have x6 : r (.tmp 6) = .pointer (some ⟨gs, 0, none⟩) := hs 6 (by kernel_rfl)
       clear hs hd hg
       go_simp
       exact ⟨Below.refl _ _, rfl⟩
      ·refine relOb_mk (o := ⟨some 36, _, _, _, _, _⟩) rfl (fun r V hc hf hg hs hb hd => ?_)
       have h0 : r (.tmp 35) = .pointer (some ⟨gs, 1, none⟩) := hd 0 35 rfl (by kernel_rfl)
       clear hs hd hg
       have l := blk_cell (blk_keep hb HS5.out) 1 _ (st_1 _)
       go_simp
       exact ⟨Below.refl _ _, rfl⟩
      ·refine relOb_mk (o := ⟨some 37, _, _, _, _, _⟩) rfl (fun r V hc hf hg hs hb hd => ?_)
       have x3 : r (.tmp 3) = .int .i64 (n : Int) := hs 3 (by kernel_rfl)
       clear hs hd hg
       go_simp
       exact ⟨Below.refl _ _, rfl⟩
      ·refine relOb_mk (o := ⟨some 38, _, _, _, _, _⟩) rfl (fun r V hc hf hg hs hb hd => ?_)
       have h2 : r (.tmp 37) = .int .i64 (n : Int) := hd 2 37 rfl (by kernel_rfl)
       clear hs hd hg
       have h63 := HN63.out
       have h0 : (0 : Int) ≤ n := by omega
       have h1 : min n 64 = n := by omega
       have h2 : ¬ (64 : Int) ≤ n := by omega
       have hs1 := one_form n h63
       go_simp
       exact ⟨Below.refl _ _, by simp⟩
      ·refine relOb_mk (o := ⟨some 39, _, _, _, _, _⟩) rfl (fun r V hc hf hg hs hb hd => ?_)
       have h1 : r (.tmp 36) = .int .u64 (s.us : Int) := hd 1 36 rfl (by kernel_rfl)
       have h3 : r (.tmp 38) = .int .u64 (pw n : Int) := hd 3 38 rfl (by kernel_rfl)
       clear hs hd hg
       have ho1 := or_form s.us n HN63.out HSO.out.us
       go_simp
       exact ⟨Below.refl _ _, rfl⟩
      ·refine relOb_mk (o := ⟨some 40, _, _, _, _, _⟩) rfl (fun r V hc hf hg hs hb hd => ?_)
       have x6 : r (.tmp 6) = .pointer (some ⟨gs, 0, none⟩) := hs 6 (by kernel_rfl)
       clear hs hd hg
       go_simp
       exact ⟨Below.refl _ _, rfl⟩
     ·intro a V hb hx
      have h0 : a.eval (.tmp 35) = .pointer (some ⟨gs, 1, none⟩) := hx 0 35 rfl rfl
      have h1 : a.eval (.tmp 36) = .int .u64 (s.us : Int) := hx 1 36 rfl rfl
      have h2 : a.eval (.tmp 37) = .int .i64 (n : Int) := hx 2 37 rfl rfl
      have h3 : a.eval (.tmp 38) = .int .u64 (pw n : Int) := hx 3 38 rfl rfl
      have h4 : a.eval (.tmp 39) = .int .u64 ((withBit s.us n : Nat) : Int) := hx 4 39 rfl rfl
      have h5 : a.eval (.tmp 40) = .pointer (some ⟨gs, 1, none⟩) := hx 5 40 rfl rfl
      unfold fillAll
      simp only [List.foldl_cons, List.foldl_nil, h0, h1, h2, h3, h4, h5, Act.put, List.setIfInBounds_toArray, List.set_cons_zero, List.set_cons_succ]
      clear h0 h1 h2 h3 h4 h5 hx
      have HSV := Lib.hid (blk_keep hb HS5.out)
      have HBV := Lib.hid (below_on HB5.out hb)
      have HRV := Lib.hid (blk_keep hb HR5.out)
      clear hb HS5 HB5 HR5
      refine wpAny_ready (rs := [6]) (by kernel_rfl) (by simp) (AllReady.cons (o := ⟨none, _, _, _, _, _⟩) rfl (fun K hK => ?_) AllReady.nil)
      have c0 := blk_cell HSV.out 1 _ (st_1 _)
      have f0 := blk_free HSV.out 1
      have hl := blk_lt HSV.out
      go_simp
      clear c0 f0 hl
      refine name_K ?_
      intro VZ hVZ
      have ho : Only gs V VZ := by rw [hVZ]; exact (Only.refl gs V).setCell rfl _
      have HSz : Hid (VZ.heap[gs]? = some (.cells (stL { s with us := withBit s.us n }).toArray 32)) := Lib.hid (by rw [hVZ]; exact (blk_set HSV.out 1 _).trans (congrArg (fun C => some (Obj.cells C 32)) (st_s1 _ _)))
      have HBz : Hid (Below w.heap.size w VZ) := Lib.hid (Only.below HBV.out HG.out.1 HBV.out.size ho)
      have HRz := Lib.hid (Only.keep ho HG.out.2 HRV.out)
      clear hVZ ho HSV HBV HRV
      refine hK _ _ ?_
      clear hK K
      refine wpAny_done (by kernel_rfl) ?_ _
      obtain ⟨W8, hW8⟩ : ∃ W', W' = VZ := ⟨_, rfl⟩
      rw [← hW8] at HSz HBz HRz ⊢
      clear hW8
      have HLD := Lib.hid (load_st HSz.out)
      obtain ⟨hst, hq9, ho9⟩ := store_st (s' := { s with us := withBit s.us n }) HRz.out
      have HST := Lib.hid hst
      have HQ9 := Lib.hid hq9
      have HB9 : Hid (Below w.heap.size w (W8.setCells gr 0 (stL { s with us := withBit s.us n }))) := Lib.hid (Only.below HBz.out HGR.out HBz.out.size ho9)
      clear hst hq9 ho9
      go_wp2_with (first
       | ((with_reducible refine wpList_load_is (op := ⟨some 73, _, _, _, _, _⟩) rfl 32 _ rfl _ _ ?_ HLD.out ?_); (· rfl))
       | ((with_reducible refine wpList_store_is (op := ⟨none, .store 32 _ _, _, _, _, _⟩) rfl 32 _ _ rfl _ _ ?_ ?_ _ HST.out ?_); (· rfl); (· rfl)))
      (try simp only [Exit.inBlock, Exit.then])
      refine bodyPost_ret (results_cell_row (g := gr) rfl _ _ 32 (stL { s with us := withBit s.us n }).toArray (0, 0) _ rfl HQ9.out Try.underlying32 rfl (by rw [List.size_toArray, st_len]; exact info_st)) rfl ?_
      exact ⟨by rw [rou_2 HU.out HF1.out], HB9.out⟩
   | false =>
     have s2 := blk_cell HS4.out 2 _ (st_2 s)
     have KHC2 := KHC
     go_wp2_with fail
     refine (KHC.out _).mono ?_
     rintro e w2 ⟨rfl, hb2⟩
     have HB2 := Lib.hid (below_on HB7.out hb2)
     have HBW2 := Lib.hid (below_on HBW7.out hb2)
     have HS6 := Lib.hid (blk_keep hb2 HS4.out)
     have HR6 := Lib.hid (blk_keep hb2 HR4.out)
     have HI6 := Lib.hid (blk_keep hb2 HI4.out)
     have HQ6 := Lib.hid (blk_keep hb2 HQ4.out)
     clear hb2 s2 HS4 HR4 HI4 HQ4 KHC
     cases bc with
     | false =>
       have s2 := blk_cell HS6.out 2 _ (st_2 s)
       go_wp2_with fail
       refine (KHC2.out _).mono ?_
       rintro e w3 ⟨rfl, hb3⟩
       have HB3 := Lib.hid (below_on HB2.out hb3)
       have HS7 := Lib.hid (blk_keep hb3 HS6.out)
       have HR7 := Lib.hid (blk_keep hb3 HR6.out)
       clear hb3 s2
       go_upto_region 11 with fail
       have HLD := Lib.hid (load_st HS7.out)
       obtain ⟨hst, hq9, ho9⟩ := store_st (s' := s) HR7.out
       have HST := Lib.hid hst
       have HQ9 := Lib.hid hq9
       have HB9 : Hid (Below w.heap.size w (w3.setCells gr 0 (stL s))) := Lib.hid (Only.below HB3.out HGR.out HB3.out.size ho9)
       clear hst hq9 ho9
       go_wp2_with (first
        | ((with_reducible refine wpList_load_is (op := ⟨some 73, _, _, _, _, _⟩) rfl 32 _ rfl _ _ ?_ HLD.out ?_); (· rfl))
        | ((with_reducible refine wpList_store_is (op := ⟨none, .store 32 _ _, _, _, _, _⟩) rfl 32 _ _ rfl _ _ ?_ ?_ _ HST.out ?_); (· rfl); (· rfl)))
       (try simp only [Exit.inBlock, Exit.then])
       refine bodyPost_ret (results_cell_row (g := gr) rfl _ _ 32 (stL s).toArray (0, 0) _ rfl HQ9.out Try.underlying32 rfl (by rw [List.size_toArray, st_len]; exact info_st)) rfl ?_
       exact ⟨by rw [rou_3 HU.out HF1.out HCA.out], HB9.out⟩
     | true =>
       obtain ⟨t, ht⟩ : ∃ t, s.tm n = t := ⟨_, rfl⟩
       have q4 := blk_cell HS6.out (3 + n) _ (st_tm9 _ HN64.out)
       rw [ht] at q4
       have d1 : (0 : Int) ≤ n := by omega
       have d3 : (n : Int) < 64 := by have := HN64.out; omega
       have htb : t ≤ 255 := by rw [← ht]; exact HSO.out.tm n
       by_cases h0 : 0 < t
       ·have d5 : (0 : Int) < (t : Int) := by omega
        have hsub : IntKind.u8.wrap ((t : Int) - 1) = ((t - 1 : Nat) : Int) := by rw [IntKind.wrap_u8]; omega
        have HEQ : Hid (rouS s oc u n (rwL L n x) = { s with tm := upd s.tm n (t - 1) }) := Lib.hid (by rw [rou_4 HU.out HF1.out HCA.out (by rw [ht]; exact h0), ht])
        have HT4 := Lib.hid ht
        have hs4 := HS6.out
        have f3 := blk_free hs4 (3 + n)
        have hl := blk_lt hs4
        clear ht h0 htb
        go_upto_region 11 with fail
        clear q4 f3 hl d1 d3 d5 hsub
        refine name_any ?_
        intro WZ hWZ
        have ho : Only gs w2 WZ := by rw [hWZ]; exact (Only.refl gs w2).setCell rfl _
        have HS9 : Hid (WZ.heap[gs]? = some (.cells (stL { s with tm := upd s.tm n (t - 1) }).toArray 32)) := Lib.hid (by rw [hWZ]; exact (blk_set hs4 (3 + n) _).trans (congrArg (fun C => some (Obj.cells C 32)) (st_stm _ _ HN64.out)))
        have HBE : Hid (Below w.heap.size w WZ) := Lib.hid (Only.below HB2.out HG.out.1 HB2.out.size ho)
        have HR9 := Lib.hid (Only.keep ho HG.out.2 HR6.out)
        clear hWZ ho hs4
        have HLD := Lib.hid (load_st HS9.out)
        obtain ⟨hst, hq9, ho9⟩ := store_st (s' := { s with tm := upd s.tm n (t - 1) }) HR9.out
        have HST := Lib.hid hst
        have HQ9 := Lib.hid hq9
        have HB9 : Hid (Below w.heap.size w (WZ.setCells gr 0 (stL { s with tm := upd s.tm n (t - 1) }))) := Lib.hid (Only.below HBE.out HGR.out HBE.out.size ho9)
        clear hst hq9 ho9
        go_wp2_with (first
         | ((with_reducible refine wpList_load_is (op := ⟨some 73, _, _, _, _, _⟩) rfl 32 _ rfl _ _ ?_ HLD.out ?_); (· rfl))
         | ((with_reducible refine wpList_store_is (op := ⟨none, .store 32 _ _, _, _, _, _⟩) rfl 32 _ _ rfl _ _ ?_ ?_ _ HST.out ?_); (· rfl); (· rfl)))
        (try simp only [Exit.inBlock, Exit.then])
        refine bodyPost_ret (results_cell_row (g := gr) rfl _ _ 32 (stL { s with tm := upd s.tm n (t - 1) }).toArray (0, 0) _ rfl HQ9.out Try.underlying32 rfl (by rw [List.size_toArray, st_len]; exact info_st)) rfl ?_
        exact ⟨by rw [HEQ.out], HB9.out⟩
       ·have d5 : ¬ (0 : Int) < (t : Int) := by omega
        have HT0 : Hid (¬ 0 < s.tm n) := Lib.hid (by rw [ht]; exact h0)
        clear ht h0 htb
        have s2 := blk_cell HS6.out 2 _ (st_2 s)
        go_wp2_with fail
        refine (KHC2.out _).mono ?_
        rintro e w3 ⟨rfl, hb3⟩
        have HB3 := Lib.hid (below_on HB2.out hb3)
        have HBW3 := Lib.hid (below_on HBW2.out hb3)
        have HS7 := Lib.hid (blk_keep hb3 HS6.out)
        have HR7 := Lib.hid (blk_keep hb3 HR6.out)
        have HI7 := Lib.hid (blk_keep hb3 HI6.out)
        have HQ7 := Lib.hid (blk_keep hb3 HQ6.out)
        clear hb3 s2 q4 d1 d3 d5
        have l0 := blk_cell HQ7.out 0 _ rfl
        have l1 := blk_cell HQ7.out 1 _ rfl
        have l2 := blk_cell HQ7.out 2 _ rfl
        have l3 := blk_cell HQ7.out 3 _ rfl
        have l4 := blk_cell HQ7.out 4 _ rfl
        have l5 := blk_cell HQ7.out 5 _ rfl
        have m0 := blk_cell HI7.out 0 _ rfl
        have m1 := blk_cell HI7.out 1 _ rfl
        have m2 := blk_cell HI7.out 2 _ rfl
        have m3 := blk_cell HI7.out 3 _ rfl
        go_wp2_with fail
        refine (KFR.out _ HBW3.out).mono ?_
        rintro e w4 ⟨rfl, hb4⟩
        have HB8 := Lib.hid (below_on HB3.out hb4)
        have HS8 := Lib.hid (blk_keep hb4 HS7.out)
        have HR8 := Lib.hid (blk_keep hb4 HR7.out)
        clear hb4 l0 l1 l2 l3 l4 l5 m0 m1 m2 m3
        cases bf with
        | true =>
          go_upto_region 10 with fail
          have HLD := Lib.hid (load_st HS8.out)
          go_wp2_with (first
           | ((with_reducible refine wpList_load_is (op := ⟨some 70, _, _, _, _, _⟩) rfl 32 _ rfl _ _ ?_ HLD.out ?_); (· rfl)))
          refine (drel_is s n _ HN63.out HSO.out).mono ?_
          rintro e wz ⟨rfl, hbz⟩
          have HRZ := Lib.hid (blk_keep hbz HR8.out)
          have HBZ := Lib.hid (below_on HB8.out hbz)
          clear hbz
          obtain ⟨hst, hq9, ho9⟩ := store_st (s' := relS s n) HRZ.out
          have HST := Lib.hid hst
          have HQ9 := Lib.hid hq9
          have HB9 : Hid (Below w.heap.size w (wz.setCells gr 0 (stL (relS s n)))) := Lib.hid (Only.below HBZ.out HGR.out HBZ.out.size ho9)
          clear hst hq9 ho9
          go_wp2_with (first
           | ((with_reducible refine wpList_store_is (op := ⟨none, .store 32 _ _, _, _, _, _⟩) rfl 32 _ _ rfl _ _ ?_ ?_ _ HST.out ?_); (· rfl); (· rfl)))
          (try simp only [Exit.inBlock, Exit.then])
          refine bodyPost_ret (results_cell_row (g := gr) rfl _ _ 32 (stL (relS s n)).toArray (0, 0) _ rfl HQ9.out Try.underlying32 rfl (by rw [List.size_toArray, st_len]; exact info_st)) rfl ?_
          rw [rou_5 HU.out HF1.out HCA.out HT0.out, HFR.out, if_pos rfl]
          exact ⟨rfl, HB9.out⟩
        | false =>
          go_upto_region 11 with fail
          have HLD := Lib.hid (load_st HS8.out)
          obtain ⟨hst, hq9, ho9⟩ := store_st (s' := s) HR8.out
          have HST := Lib.hid hst
          have HQ9 := Lib.hid hq9
          have HB9 : Hid (Below w.heap.size w (w4.setCells gr 0 (stL s))) := Lib.hid (Only.below HB8.out HGR.out HB8.out.size ho9)
          clear hst hq9 ho9
          go_wp2_with (first
           | ((with_reducible refine wpList_load_is (op := ⟨some 73, _, _, _, _, _⟩) rfl 32 _ rfl _ _ ?_ HLD.out ?_); (· rfl))
           | ((with_reducible refine wpList_store_is (op := ⟨none, .store 32 _ _, _, _, _, _⟩) rfl 32 _ _ rfl _ _ ?_ ?_ _ HST.out ?_); (· rfl); (· rfl)))
          (try simp only [Exit.inBlock, Exit.then])
          refine bodyPost_ret (results_cell_row (g := gr) rfl _ _ 32 (stL s).toArray (0, 0) _ rfl HQ9.out Try.underlying32 rfl (by rw [List.size_toArray, st_len]; exact info_st)) rfl ?_
          exact ⟨by rw [rou_5 HU.out HF1.out HCA.out HT0.out, HFR.out]; rfl, HB9.out⟩
end Go.Proofs.Ytjienmjpfklgeaa
