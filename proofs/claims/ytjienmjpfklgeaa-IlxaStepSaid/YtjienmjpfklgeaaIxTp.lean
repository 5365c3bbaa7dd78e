/-
 Layer 10: the document's proceed.
-/
import Derived.Test.YtjienmjpfklgeaaIxT
namespace Go.Proofs.Ytjienmjpfklgeaa
open Go.RowKit
set_option maxRecDepth 100000
/-- a bit that is not there -/
theorem has_form32 (s n : Nat) (hs : s < 4294967296) : (bits .and .u32 ((s : Int) / 2 ^ n) 1 == 0) = !hasBit s n := by
 have h1 : s / pw n < 4294967296 := Nat.lt_of_le_of_lt (Nat.div_le_self _ _) hs
 rw [shr_pw, show (1 : Int) = ((1 : Nat) : Int) from rfl, u32_and_nat _ 1 h1 (by omega), Nat.and_one_is_mod]
 unfold hasBit
 rw [Bool.eq_iff_iff]; simp; omega
attribute [local irreducible] Sl.v hasBit pw withBit woBit cyL stL stV tmL freeS ndBad maySet ptL setS mayCan canS canD nedS flipB mayMov movS comG relS rouS proS tidyS comsG rousS prosS nextG outS lnOk rightK rgtS eqS Mc.tb upd mayS checkS sideN
attribute [local irreducible] tbL rwL secOf cofL Rt.tr Rt.nd conflictS pairS formedS
attribute [local irreducible] mskS

set_option maxHeartbeats 16000000 in
theorem dproceed_is (L : Lay) (s : St) (oc no re : Nat) (ia : Option Addr) (il ic : Nat) (n : Nat) (x : Rt) (w : World) (hL : LayAt w L) (hc : (checkS L).1 = 0) (hs : s.ok) (ho : oc < 18446744073709551616) (hno : no < 4294967296) (hre : re < 4294967296) (hx : L.rt.l[n]? = some x) :
 Calls Try.prog 31 #[.agg #[L.se.v, L.po.v, L.sg.v, L.rt.v], .agg (stL s).toArray, .agg #[.int .u64 (oc : Int), .int .u32 (no : Int), .int .u32 (re : Int), .slice ia il ic], .int .i64 (n : Int)] w fun e w' => e = .returned (.bool (proS s oc (sideN no re) (sideN re no) n (rwL L n x))) ∧ Below w.heap.size w w' := by
 have HMAY : Hid (mayS L = true) := Lib.hid (cs_zero hc)
 have HS4 : Hid (L.rt.l.length ≤ 64) := Lib.hid (mayS_small (cs_zero hc)).2.2.2
 have HCK := Lib.hid hc
 have h63 : n ≤ 63 := by have h1 := (List.getElem?_eq_some_iff.1 hx).1; have := HS4.out; omega
 have hxm := List.mem_of_getElem? hx
 obtain ⟨bm, hbm⟩ : ∃ b, mayCan s n = b := ⟨_, rfl⟩
 obtain ⟨bf, hbf⟩ : ∃ b, freeS oc (rwL L n x) = b := ⟨_, rfl⟩
 obtain ⟨sa, hsa⟩ : ∃ a, sideN no re = a := ⟨_, rfl⟩
 obtain ⟨sb, hsb⟩ : ∃ a, sideN re no = a := ⟨_, rfl⟩
 have HSA : Hid (sa < 4294967296) := Lib.hid (hsa ▸ side_lt32 hno)
 have HSB : Hid (sb < 4294967296) := Lib.hid (hsb ▸ side_lt32 hre)
 obtain ⟨bn, hbn⟩ : ∃ b, x.nd.any (fun m : Int × Bool => !(hasBit (if m.2 then sb else sa) m.1.toNat)) = b := ⟨_, rfl⟩
 have HZN := Lib.hid hbn
 have HRES : Hid (proS s oc (sideN no re) (sideN re no) n (rwL L n x) = (bm && (bf && !bn))) := Lib.hid (by rw [hsa, hsb, pro_is, hbf, rwl_nd, hbn, ← may_can, hbm])
 have KSD : Hid (∀ V, Calls Try.prog 47 #[.agg #[.int .u64 (oc : Int), .int .u32 (no : Int), .int .u32 (re : Int), .slice ia il ic]] V fun e w' => e = .returned (.tuple #[.int .u32 (sa : Int), .int .u32 (sb : Int)]) ∧ Below V.heap.size V w') := Lib.hid (fun V => by
  have h := refsides_any oc no re ia il ic V
  rw [side_form hno hre, side_form hre hno, hsa, hsb] at h
  exact h)
 have KHS : Hid (∀ V, Calls Try.prog 22 #[.int .u64 ((mskS s : Nat) : Int), .int .i64 (n : Int)] V fun e w' => e = .returned (.bool bm) ∧ Below V.heap.size V w') := Lib.hid (fun V => dhas_is bm (mskS s : Nat) n V h63 (msk_lt hs) ((msk_bit hs h63).trans hbm))
 have HA1 := Lib.hid (msk_1 hs)
 have HA2 := Lib.hid (msk_2 hs)
 have HOC := Lib.hid ho
 obtain ⟨n1, hn1⟩ : ∃ n, L.se.l.length = n := ⟨_, rfl⟩
 obtain ⟨n2, hn2⟩ : ∃ n, L.po.l.length = n := ⟨_, rfl⟩
 obtain ⟨n3, hn3⟩ : ∃ n, L.sg.l.length = n := ⟨_, rfl⟩
 obtain ⟨n4, hn4⟩ : ∃ n, L.rt.l.length = n := ⟨_, rfl⟩
 have HLW := Lib.hid hL
 have HN1 := Lib.hid hn1
 have HN2 := Lib.hid hn2
 have HN3 := Lib.hid hn3
 have HN4 := Lib.hid hn4
 have HNLT : Hid (n < n4) := Lib.hid (by rw [← hn4]; exact (List.getElem?_eq_some_iff.1 hx).1)
 rw [slv hn1, slv hn2, slv hn3, slv hn4]
 clear hn1 hn2 hn3 hn4 hL hc hs ho hno hre hsa hsb hbn h63 hbm
 go_enter Try.func31, Try.ntmps31
 go_upto_region 1 with fail
 refine name_last (os := [.cells #[.slice L.se.a n1 L.se.c, .slice L.po.a n2 L.po.c, .slice L.sg.a n3 L.sg.c, .slice L.rt.a n4 L.rt.c] 27, .cells (stL s).toArray 32, .cells #[.int .u64 (oc : Int), .int .u32 (no : Int), .int .u32 (re : Int), .slice ia il ic] 35]) (w0 := w) rfl ?_
 intro W hat hbw
 obtain ⟨gl, hgl⟩ : ∃ g, g = w.heap.size := ⟨_, rfl⟩
 have q0 := hat 0 _ rfl
 obtain ⟨gs, hgs⟩ : ∃ g, g = gl + 1 := ⟨_, rfl⟩
 have q1 := hat 1 _ rfl
 obtain ⟨gi, hgi⟩ : ∃ g, g = gs + 1 := ⟨_, rfl⟩
 have q2 := hat 2 _ rfl
 rw [Nat.add_zero, ← hgl] at q0
 rw [← hgl, ← hgs] at q1
 rw [← hgl, show gl + 2 = gi by omega] at q2
 rw [← hgl, ← hgs, ← hgi]
 have HQl := Lib.hid q0
 have HQs := Lib.hid q1
 have HQi := Lib.hid q2
 have HB0 := Lib.hid hbw
 clear hat hbw q0 q1 q2 hgl hgs hgi
 have HBX := HB0
 rcases HLW.out.rt.row with hnil | ⟨xb, off, hxb, hc0⟩
 ·rw [hnil] at hx; cases hx
 have hc := fun i c hi j v hv => cell_later (HB0.out) (hc0 i c hi j v hv)
 have hyx := hx
 have z0 := hc n _ hyx 0 _ rfl
 have z1 := hc n _ hyx 1 _ rfl
 have z2 := hc n _ hyx 2 _ rfl
 have z3 := hc n _ hyx 3 _ rfl
 have z4 := hc n _ hyx 4 _ rfl
 have z5 := hc n _ hyx 5 _ rfl
 rw [Nat.add_zero] at z0
 obtain ⟨p1, hp1⟩ : ∃ n, x.pa.l.length = n := ⟨_, rfl⟩
 obtain ⟨p2, hp2⟩ : ∃ n, x.po.l.length = n := ⟨_, rfl⟩
 obtain ⟨p3, hp3⟩ : ∃ n, x.ov.l.length = n := ⟨_, rfl⟩
 obtain ⟨p4, hp4⟩ : ∃ n, x.fl.l.length = n := ⟨_, rfl⟩
 rw [slv hp1] at z2
 rw [slv hp2] at z3
 rw [slv hp3] at z4
 rw [slv hp4] at z5
 have HZX := Lib.hid (And.intro z0 (And.intro z1 (And.intro z2 (And.intro z3 (And.intro z4 z5)))))
 clear z0 z1 z2 z3 z4 z5
 have KFR : Hid (∀ V, Below W.heap.size W V → Calls Try.prog 62 #[.agg #[.string x.nm, .int .i64 x.sg, .slice x.pa.a p1 x.pa.c, .slice x.po.a p2 x.po.c, .slice x.ov.a p3 x.ov.c, .slice x.fl.a p4 x.fl.c], .agg #[.int .u64 (oc : Int), .int .u32 (no : Int), .int .u32 (re : Int), .slice ia il ic]] V fun e w' => e = .returned (.bool bf) ∧ Below V.heap.size V w') := Lib.hid (fun V hV => by
  have ok := mayS_rt HMAY.out x hxm
  have h := dfree_is (!bf) oc no re ia il ic x V ((HLW.out.rn x hxm).below (below_on HBX.out hV)) (by have := ok.pa; have := ok.ov; omega) (fun k hk => by have h := t_tr HMAY.out x hxm k hk; have := (mayS_small HMAY.out).1; omega) HOC.out (by rw [free_rw] at hbf; rw [← hbf, Bool.not_not])
  rw [slv hp1, slv hp2, slv hp3, slv hp4, Bool.not_not] at h
  exact h)
 have KND : Hid (∀ V, Below W.heap.size W V → Calls Try.prog 45 #[.agg #[.string x.nm, .int .i64 x.sg, x.pa.v, x.po.v, x.ov.v, x.fl.v]] V fun e w' => ∃ a n c, e = .returned (.slice a n c) ∧ n = x.nd.length ∧ SlAt 2 ndC w' ⟨a, c, x.nd⟩ ∧ Below V.heap.size V w') := Lib.hid (fun V hV => by
  have ok := mayS_rt HMAY.out x hxm
  have h := rneeds_is x V ((HLW.out.rn x hxm).below (below_on (HB0.out) hV)) (by have := ok.po; have := ok.fl; omega)
  unfold Rt.nd
  rw [List.length_append]
  exact h)
 have HNL : Hid (x.nd.length ≤ 100000) := Lib.hid (by have ok := mayS_rt HMAY.out x hxm; have := ok.po; have := ok.fl; unfold Rt.nd; rw [List.length_append]; omega)
 have HNB : Hid (∀ n ∈ x.nd, 0 ≤ n.1 ∧ n.1 ≤ 31) := Lib.hid (fun n hn => by have h := t_nd HMAY.out x hxm n hn; have := (mayS_small HMAY.out).2.1; omega)
 rw [slv hp1, slv hp2, slv hp3, slv hp4] at KND
 obtain ⟨X, hX⟩ : ∃ a, L.rt.a = a := ⟨_, rfl⟩
 have hql := HQl.out
 rw [hX] at hxb hql ⊢
 subst hxb
 have HQl := Lib.hid hql
 have HD1 : Hid ((0 : Int) ≤ n) := Lib.hid (by omega)
 have HD2 : Hid ((n : Int) < n4) := Lib.hid (by have := HNLT.out; omega)
 clear hx hyx hc hc0 hX hql hbf hp1 hp2 hp3 hp4 hxm
 have KHSW : Hid (∀ w', Below W.heap.size W w' → Calls Try.prog 22 #[.int .u64 (mskS s : Int), .int .i64 (n : Int)] w' fun e w'' => e = .returned (.bool bm) ∧ Below W.heap.size W w'') := Lib.hid (fun w' hw' => (KHS.out w').mono (fun _ _ h => ⟨h.1, below_on hw' h.2⟩))
 have KFRW : Hid (∀ w', Below W.heap.size W w' → Calls Try.prog 62 #[.agg #[.string x.nm, .int .i64 x.sg, .slice x.pa.a p1 x.pa.c, .slice x.po.a p2 x.po.c, .slice x.ov.a p3 x.ov.c, .slice x.fl.a p4 x.fl.c], .agg #[.int .u64 (oc : Int), .int .u32 (no : Int), .int .u32 (re : Int), .slice ia il ic]] w' fun e w'' => e = .returned (.bool bf) ∧ Below W.heap.size W w'') := Lib.hid (fun w' hw' => (KFR.out w' (hw')).mono (fun _ _ h => ⟨h.1, below_on hw' h.2⟩))
 have d1 := HD1.out
 have d2 := HD2.out
 cases bm with
 | false =>
   refine wp_region_calm (by kernel_rfl) ?_ ?_
   ·kernel_rfl
   repeat first
    | go_big_quiet_skip
    | (go_big_quiet_want; go_big_quiet_op; go_big_quiet_on)
    | (with_reducible apply wpQuiet_step
       intro K hK
       go_simp
       first
        | (refine hK _ ?_; clear hK K)
        | (apply Exists.intro
           refine ⟨fun w' hw' => ?_, hK _ ?_⟩
           ·
            (first
             | with_reducible exact KHSW.out _ hw'
             | with_reducible exact KFRW.out _ hw'
             | (have s0 := blk_cell (blk_keep hw' HQs.out) 0 _ (st_0 s)
                have s1 := blk_cell (blk_keep hw' HQs.out) 1 _ (st_1 s)
                have s2 := blk_cell (blk_keep hw' HQs.out) 2 _ (st_2 s)
                have a1 := HA1.out
                have a2 := HA2.out
                go_simp
                first | done | with_reducible exact rfl | with_reducible exact ⟨rfl, rfl⟩ | with_reducible exact KHSW.out _ hw' | with_reducible exact KFRW.out _ hw')
             | (have g0 := blk_cell (blk_keep hw' HQl.out) 0 _ rfl
                have g1 := blk_cell (blk_keep hw' HQl.out) 1 _ rfl
                have g2 := blk_cell (blk_keep hw' HQl.out) 2 _ rfl
                have g3 := blk_cell (blk_keep hw' HQl.out) 3 _ rfl
                go_simp
                first | done | with_reducible exact rfl | with_reducible exact ⟨rfl, rfl⟩ | with_reducible exact KHSW.out _ hw' | with_reducible exact KFRW.out _ hw')
             | (have z0 := cell_later hw' HZX.out.1
                have z1 := cell_later hw' HZX.out.2.1
                have z2 := cell_later hw' HZX.out.2.2.1
                have z3 := cell_later hw' HZX.out.2.2.2.1
                have z4 := cell_later hw' HZX.out.2.2.2.2.1
                have z5 := cell_later hw' HZX.out.2.2.2.2.2
                go_simp
                first | done | with_reducible exact rfl | with_reducible exact ⟨rfl, rfl⟩ | with_reducible exact KHSW.out _ hw' | with_reducible exact KFRW.out _ hw')
             | (have g0 := blk_cell (blk_keep hw' HQi.out) 0 _ rfl
                have g1 := blk_cell (blk_keep hw' HQi.out) 1 _ rfl
                have g2 := blk_cell (blk_keep hw' HQi.out) 2 _ rfl
                have g3 := blk_cell (blk_keep hw' HQi.out) 3 _ rfl
                go_simp
                first | done | with_reducible exact rfl | with_reducible exact ⟨rfl, rfl⟩ | with_reducible exact KHSW.out _ hw' | with_reducible exact KFRW.out _ hw')
             | (have d1 := HD1.out
                have d2 := HD2.out
                go_simp
                first | done | with_reducible exact rfl | with_reducible exact ⟨rfl, rfl⟩ | with_reducible exact KHSW.out _ hw' | with_reducible exact KFRW.out _ hw'))
           clear hK K))
   refine wpQuiet_nil ?_
   intro w7 hw7
   have HB7 := Lib.hid (below_on HB0.out hw7)
   clear hw7
   go_wp2_with fail
   go_ret
   exact ⟨by rw [HRES.out]; rfl, HB7.out⟩
 | true =>
   cases bf with
   | false =>
     refine wp_region_calm (by kernel_rfl) ?_ ?_
     ·kernel_rfl
     repeat first
      | go_big_quiet_skip
      | (go_big_quiet_want; go_big_quiet_op; go_big_quiet_on)
      | (with_reducible apply wpQuiet_step
         intro K hK
         go_simp
         first
          | (refine hK _ ?_; clear hK K)
          | (apply Exists.intro
             refine ⟨fun w' hw' => ?_, hK _ ?_⟩
             ·
              (first
               | with_reducible exact KHSW.out _ hw'
               | with_reducible exact KFRW.out _ hw'
               | (have s0 := blk_cell (blk_keep hw' HQs.out) 0 _ (st_0 s)
                  have s1 := blk_cell (blk_keep hw' HQs.out) 1 _ (st_1 s)
                  have s2 := blk_cell (blk_keep hw' HQs.out) 2 _ (st_2 s)
                  have a1 := HA1.out
                  have a2 := HA2.out
                  go_simp
                  first | done | with_reducible exact rfl | with_reducible exact ⟨rfl, rfl⟩ | with_reducible exact KHSW.out _ hw' | with_reducible exact KFRW.out _ hw')
               | (have g0 := blk_cell (blk_keep hw' HQl.out) 0 _ rfl
                  have g1 := blk_cell (blk_keep hw' HQl.out) 1 _ rfl
                  have g2 := blk_cell (blk_keep hw' HQl.out) 2 _ rfl
                  have g3 := blk_cell (blk_keep hw' HQl.out) 3 _ rfl
                  go_simp
                  first | done | with_reducible exact rfl | with_reducible exact ⟨rfl, rfl⟩ | with_reducible exact KHSW.out _ hw' | with_reducible exact KFRW.out _ hw')
               | (have z0 := cell_later hw' HZX.out.1
                  have z1 := cell_later hw' HZX.out.2.1
                  have z2 := cell_later hw' HZX.out.2.2.1
                  have z3 := cell_later hw' HZX.out.2.2.2.1
                  have z4 := cell_later hw' HZX.out.2.2.2.2.1
                  have z5 := cell_later hw' HZX.out.2.2.2.2.2
                  go_simp
                  first | done | with_reducible exact rfl | with_reducible exact ⟨rfl, rfl⟩ | with_reducible exact KHSW.out _ hw' | with_reducible exact KFRW.out _ hw')
               | (have g0 := blk_cell (blk_keep hw' HQi.out) 0 _ rfl
                  have g1 := blk_cell (blk_keep hw' HQi.out) 1 _ rfl
                  have g2 := blk_cell (blk_keep hw' HQi.out) 2 _ rfl
                  have g3 := blk_cell (blk_keep hw' HQi.out) 3 _ rfl
                  go_simp
                  first | done | with_reducible exact rfl | with_reducible exact ⟨rfl, rfl⟩ | with_reducible exact KHSW.out _ hw' | with_reducible exact KFRW.out _ hw')
               | (have d1 := HD1.out
                  have d2 := HD2.out
                  go_simp
                  first | done | with_reducible exact rfl | with_reducible exact ⟨rfl, rfl⟩ | with_reducible exact KHSW.out _ hw' | with_reducible exact KFRW.out _ hw'))
             clear hK K))
     refine wpQuiet_nil ?_
     intro w7 hw7
     have HB7 := Lib.hid (below_on HB0.out hw7)
     clear hw7
     go_wp2_with fail
     go_ret
     exact ⟨by rw [HRES.out]; rfl, HB7.out⟩
   | true =>
     refine wp_region_calm (by kernel_rfl) ?_ ?_
     ·kernel_rfl
     repeat first
      | go_big_quiet_skip
      | (go_big_quiet_want; go_big_quiet_op; go_big_quiet_on)
      | (with_reducible apply wpQuiet_step
         intro K hK
         go_simp
         first
          | (refine hK _ ?_; clear hK K)
          | (apply Exists.intro
             refine ⟨fun w' hw' => ?_, hK _ ?_⟩
             ·
              (first
               | with_reducible exact KHSW.out _ hw'
               | with_reducible exact KFRW.out _ hw'
               | (have s0 := blk_cell (blk_keep hw' HQs.out) 0 _ (st_0 s)
                  have s1 := blk_cell (blk_keep hw' HQs.out) 1 _ (st_1 s)
                  have s2 := blk_cell (blk_keep hw' HQs.out) 2 _ (st_2 s)
                  have a1 := HA1.out
                  have a2 := HA2.out
                  go_simp
                  first | done | with_reducible exact rfl | with_reducible exact ⟨rfl, rfl⟩ | with_reducible exact KHSW.out _ hw' | with_reducible exact KFRW.out _ hw')
               | (have g0 := blk_cell (blk_keep hw' HQl.out) 0 _ rfl
                  have g1 := blk_cell (blk_keep hw' HQl.out) 1 _ rfl
                  have g2 := blk_cell (blk_keep hw' HQl.out) 2 _ rfl
                  have g3 := blk_cell (blk_keep hw' HQl.out) 3 _ rfl
                  go_simp
                  first | done | with_reducible exact rfl | with_reducible exact ⟨rfl, rfl⟩ | with_reducible exact KHSW.out _ hw' | with_reducible exact KFRW.out _ hw')
               | (have z0 := cell_later hw' HZX.out.1
                  have z1 := cell_later hw' HZX.out.2.1
                  have z2 := cell_later hw' HZX.out.2.2.1
                  have z3 := cell_later hw' HZX.out.2.2.2.1
                  have z4 := cell_later hw' HZX.out.2.2.2.2.1
                  have z5 := cell_later hw' HZX.out.2.2.2.2.2
                  go_simp
                  first | done | with_reducible exact rfl | with_reducible exact ⟨rfl, rfl⟩ | with_reducible exact KHSW.out _ hw' | with_reducible exact KFRW.out _ hw')
               | (have g0 := blk_cell (blk_keep hw' HQi.out) 0 _ rfl
                  have g1 := blk_cell (blk_keep hw' HQi.out) 1 _ rfl
                  have g2 := blk_cell (blk_keep hw' HQi.out) 2 _ rfl
                  have g3 := blk_cell (blk_keep hw' HQi.out) 3 _ rfl
                  go_simp
                  first | done | with_reducible exact rfl | with_reducible exact ⟨rfl, rfl⟩ | with_reducible exact KHSW.out _ hw' | with_reducible exact KFRW.out _ hw')
               | (have d1 := HD1.out
                  have d2 := HD2.out
                  go_simp
                  first | done | with_reducible exact rfl | with_reducible exact ⟨rfl, rfl⟩ | with_reducible exact KHSW.out _ hw' | with_reducible exact KFRW.out _ hw'))
             clear hK K))
     refine wpQuiet_nil ?_
     intro w7 hw7
     have HB7 := Lib.hid (below_on HB0.out hw7)
     have HBW7 := Lib.hid hw7
     clear hw7
     have m0 := blk_cell (blk_keep HBW7.out HQi.out) 0 _ rfl
     have m1 := blk_cell (blk_keep HBW7.out HQi.out) 1 _ rfl
     have m2 := blk_cell (blk_keep HBW7.out HQi.out) 2 _ rfl
     have m3 := blk_cell (blk_keep HBW7.out HQi.out) 3 _ rfl
     go_wp2_with fail
     refine (KSD.out _).mono ?_
     rintro e w2 ⟨rfl, hb2⟩
     have HB2 := Lib.hid (below_on HB7.out hb2)
     have HBW2 := Lib.hid (below_on HBW7.out hb2)
     have l0 := blk_cell (blk_keep HBW2.out HQl.out) 0 _ rfl
     have l1 := blk_cell (blk_keep HBW2.out HQl.out) 1 _ rfl
     have l2 := blk_cell (blk_keep HBW2.out HQl.out) 2 _ rfl
     have l3 := blk_cell (blk_keep HBW2.out HQl.out) 3 _ rfl
     have z0 := cell_later HBW2.out HZX.out.1
     have z1 := cell_later HBW2.out HZX.out.2.1
     have z2 := cell_later HBW2.out HZX.out.2.2.1
     have z3 := cell_later HBW2.out HZX.out.2.2.2.1
     have z4 := cell_later HBW2.out HZX.out.2.2.2.2.1
     have z5 := cell_later HBW2.out HZX.out.2.2.2.2.2
     clear m0 m1 m2 m3 hb2
     go_wp2_with fail
     refine (KND.out _ HBW2.out).mono ?_
     rintro e wn ⟨ta, tn, tc, rfl, htn, hT, hb1⟩
     have HT := Lib.hid hT.row
     have HTN := Lib.hid htn
     have htm : tn ≤ 100000 := by rw [htn]; exact HNL.out
     have HTM := Lib.hid htm
     have HBN := Lib.hid (below_on HB2.out hb1)
     clear l0 l1 l2 l3 z0 z1 z2 z3 z4 z5 d1 d2 htn hT hb1 htm
     go_upto_region 6 with fail
     go_loopg [12] tn (fun g v wq => ∃ k : Nat, k + g = tn ∧ v = .int .i64 (k : Int) ∧ (x.nd.take k).any (fun m : Int × Bool => !(hasBit (if m.2 then sb else sa) m.1.toNat)) = false ∧ Below wn.heap.size wn wq)
     case atStart => exact ⟨0, by omega, rfl, tk_zero, Below.refl _ _⟩
     case round =>
      obtain ⟨k, hk, rfl, ho, hbw⟩ := hrel
      have HK := Lib.hid hk
      have HF2 := Lib.hid ho
      have HBQ := Lib.hid hbw
      clear hk ho hbw
      by_cases hlk : k < tn
      ·skip
       have d3 : (0 : Int) ≤ k := by omega
       have d4 : (k : Int) < tn := by omega
       have e2 := k_succ hlk (Nat.le_trans HTM.out (by decide))
       have HLK := Lib.hid hlk
       obtain ⟨⟨sj, B⟩, hs⟩ : ∃ s, x.nd[k]? = some s := ⟨_, List.getElem?_eq_getElem (by have := HTN.out; omega)⟩
       have hsb := HNB.out _ (List.mem_of_getElem? hs)
       dsimp only at hsb
       obtain ⟨j, rfl⟩ : ∃ j : Nat, sj = j := ⟨sj.toNat, by omega⟩
       have HJ31 : Hid (j ≤ 31) := Lib.hid (by omega)
       obtain ⟨A, hA⟩ : ∃ x, ta = x := ⟨_, rfl⟩
       have HAA := Lib.hid hA
       have hrow := HT.out
       rw [hA] at hrow ⊢
       rcases hrow with hnil | ⟨tb, toff, htb, ht0⟩
       ·have := HTN.out; rw [hnil] at this; simp at this; omega
       subst htb
       have t0 := cell_later HBQ.out (ht0 k _ hs 0 (.int .i64 (j : Int)) rfl)
       have t1 := cell_later HBQ.out (ht0 k _ hs 1 (.bool B) rfl)
       rw [Nat.add_zero] at t0
       have HSK := Lib.hid hs
       clear ht0 hs hsb hlk hA
       have j0 : (0 : Int) ≤ j := by omega
       have j1 : min j 32 = j := by have := HJ31.out; omega
       have j2 : ¬ (32 : Int) ≤ j := by have := HJ31.out; omega
       cases B with
       | false =>
         obtain ⟨E, hE⟩ : ∃ E, (!(hasBit sa j)) = E := ⟨_, rfl⟩
         have f := (has_form32 sa j HSA.out).trans hE
         have HE : Hid ((fun m : Int × Bool => !(hasBit (if m.2 then sb else sa) m.1.toNat)) ((j : Int), false) = E) := Lib.hid (by show (!(hasBit sa ((j : Int).toNat))) = E; rw [Int.toNat_natCast]; exact hE)
         clear hE
         cases E with
         | true =>
           have HTT : Hid (bn = true) := Lib.hid (HZN.out.symm.trans (tk_yes HSK.out HE.out))
           go_wp2_with fail
           go_ret
           exact ⟨by rw [HRES.out, HTT.out]; rfl, below_on HBN.out HBQ.out⟩
         | false =>
           have HN : Hid ((x.nd.take (k + 1)).any (fun m : Int × Bool => !(hasBit (if m.2 then sb else sa) m.1.toNat)) = false) := Lib.hid (tk_no HSK.out HF2.out HE.out)
           go_wp2_with fail
           rw [← HAA.out]
           go_roundg (tn - (k + 1))
           case rel => exact ⟨k + 1, k_next HK.out HLK.out, by go_num, HN.out, HBQ.out⟩
           case measure => exact k_less HK.out HLK.out
       | true =>
         obtain ⟨E, hE⟩ : ∃ E, (!(hasBit sb j)) = E := ⟨_, rfl⟩
         have f := (has_form32 sb j HSB.out).trans hE
         have HE : Hid ((fun m : Int × Bool => !(hasBit (if m.2 then sb else sa) m.1.toNat)) ((j : Int), true) = E) := Lib.hid (by show (!(hasBit sb ((j : Int).toNat))) = E; rw [Int.toNat_natCast]; exact hE)
         clear hE
         cases E with
         | true =>
           have HTT : Hid (bn = true) := Lib.hid (HZN.out.symm.trans (tk_yes HSK.out HE.out))
           go_wp2_with fail
           go_ret
           exact ⟨by rw [HRES.out, HTT.out]; rfl, below_on HBN.out HBQ.out⟩
         | false =>
           have HN : Hid ((x.nd.take (k + 1)).any (fun m : Int × Bool => !(hasBit (if m.2 then sb else sa) m.1.toNat)) = false) := Lib.hid (tk_no HSK.out HF2.out HE.out)
           go_wp2_with fail
           rw [← HAA.out]
           go_roundg (tn - (k + 1))
           case rel => exact ⟨k + 1, k_next HK.out HLK.out, by go_num, HN.out, HBQ.out⟩
           case measure => exact k_less HK.out HLK.out
      ·have d4 : ¬ ((k : Int) < tn) := by omega
       have HTT : Hid (bn = false) := Lib.hid (HZN.out.symm.trans (tk_all HF2.out (by have := HTN.out; have := HK.out; omega)))
       go_wp2_with fail
       go_ret
       exact ⟨by rw [HRES.out, HTT.out]; rfl, below_on HBN.out HBQ.out⟩
end Go.Proofs.Ytjienmjpfklgeaa
