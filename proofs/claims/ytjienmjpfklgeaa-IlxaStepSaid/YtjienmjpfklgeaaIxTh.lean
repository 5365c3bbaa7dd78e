/-
 Layer 10: the document's command: cancel.
-/
import Derived.Test.YtjienmjpfklgeaaIxTc
namespace Go.Proofs.Ytjienmjpfklgeaa
open Go.RowKit
set_option maxRecDepth 100000
theorem upd_upd (f : Nat → Nat) (n a b : Nat) : upd (upd f n a) n b = upd f n b := by
 funext k
 unfold upd
 by_cases e : k = n
 ·rw [if_pos e, if_pos e]
 ·rw [if_neg e, if_neg e, if_neg e]
attribute [local irreducible] Sl.v hasBit pw withBit woBit cyL stL stV tmL freeS ndBad maySet ptL setS mayCan canS canD nedS flipB mayMov movS comG relS rouS proS tidyS comsG rousS prosS nextG outS lnOk rightK rgtS eqS Mc.tb upd mayS checkS sideN
attribute [local irreducible] tbL rwL secOf cofL Rt.tr Rt.nd conflictS pairS formedS
attribute [local irreducible] mskS

set_option maxHeartbeats 16000000 in
theorem dcmd_2 (L : Lay) (s : St) (oc no re : Nat) (ia : Option Addr) (il ic : Nat) (kd : Nat) (nn : Int) (w : World) (hL : LayAt w L) (hc : (checkS L).1 = 0) (hs : s.ok) (ho : oc < 18446744073709551616) (hkd : kd ≤ 255) (h1 : -9223372036854775808 ≤ nn) (h2 : nn ≤ 9223372036854775807) (hk : kd = 2) (n : Nat) (x : Rt) (hn : nn = (n : Int)) (hx : L.rt.l[n]? = some x) :
 Calls Try.prog 29 #[.agg #[L.se.v, L.po.v, L.sg.v, L.rt.v], .agg (stL s).toArray, .agg #[.int .u64 (oc : Int), .int .u32 (no : Int), .int .u32 (re : Int), .slice ia il ic], .agg #[.int .u8 (kd : Int), .int .i64 nn]] w fun e w' => e = .returned (.agg (stL (comD (tbL L) s oc (kd, nn))).toArray) ∧ Below w.heap.size w w' := by
 have HMAY : Hid (mayS L = true) := Lib.hid (cs_zero hc)
 have HS4 : Hid (L.rt.l.length ≤ 64) := Lib.hid (mayS_small (cs_zero hc)).2.2.2
 have HCK := Lib.hid hc
 have HS2 : Hid (L.po.l.length ≤ 32) := Lib.hid (mayS_small (cs_zero hc)).2.1
 have HS1 : Hid (L.se.l.length ≤ 64) := Lib.hid (mayS_small (cs_zero hc)).1
 have HBR : Hid (cmdRight L.po.l.length L.rt.l.length (kd, nn) = true) := Lib.hid (by
  have hl := (List.getElem?_eq_some_iff.1 hx).1
  unfold cmdRight
  exact decide_eq_true (by dsimp only; omega))
 have h63 : n ≤ 63 := by have h1 := (List.getElem?_eq_some_iff.1 hx).1; have := HS4.out; omega
 have hxm := List.mem_of_getElem? hx
 have HN63 := Lib.hid h63
 have HN64 : Hid (n < 64) := Lib.hid (by omega)
 have HXR := Lib.hid hx
 obtain ⟨bm, hbm⟩ : ∃ b, mayCan s n = b := ⟨_, rfl⟩
 obtain ⟨sk, hsk⟩ : ∃ k : Nat, x.sg = k := ⟨x.sg.toNat, by have := (mayS_rt HMAY.out x hxm).s0; omega⟩
 have hsl : sk < L.sg.l.length := by have := (mayS_rt HMAY.out x hxm).s1; omega
 obtain ⟨⟨gn, gsx⟩, hsp⟩ : ∃ p, L.sg.l[sk]? = some p := ⟨_, List.getElem?_eq_getElem hsl⟩
 have hgs : 0 ≤ gsx ∧ gsx ≤ 63 := by have h := (t_sec HMAY.out).2 _ (List.mem_of_getElem? hsp); dsimp only at h; have := HS1.out; omega
 obtain ⟨q, rfl⟩ : ∃ q : Nat, gsx = q := ⟨gsx.toNat, by omega⟩
 obtain ⟨bq, hbq⟩ : ∃ b, hasBit oc q = b := ⟨_, rfl⟩
 have HEQ : Hid (comD (tbL L) s oc (kd, nn) = if bm then { s with ca := withBit s.ca n, tm := if bq then upd s.tm n 20 else upd s.tm n 0 } else s) := Lib.hid (by
  rw [hn, hk, cmd_can hx, can_if, hbm, rwl_ah, hsk, secOf_at hsp]
  dsimp only
  rw [Int.toNat_natCast, hbq])
 have KHM : Hid (∀ V, Calls Try.prog 22 #[.int .u64 ((mskS s : Nat) : Int), .int .i64 (n : Int)] V fun e w' => e = .returned (.bool bm) ∧ Below V.heap.size V w') := Lib.hid (fun V => dhas_is bm (mskS s : Nat) n V h63 (msk_lt hs) ((msk_bit hs h63).trans hbm))
 have KCL : Hid (∀ V, Calls Try.prog 60 #[.agg #[.int .u64 (oc : Int), .int .u32 (no : Int), .int .u32 (re : Int), .slice ia il ic], .int .i64 (q : Int)] V fun e w' => e = .returned (.bool (!bq)) ∧ Below V.heap.size V w') := Lib.hid (fun V => dclear_is bq oc no re ia il ic q V (by omega) ho hbq)
 have HA1 := Lib.hid (msk_1 hs)
 have HA2 := Lib.hid (msk_2 hs)
 have HSK := Lib.hid hsk
 have HSP := Lib.hid hsp
 have HSGR : Hid (RowAt 2 ptC w L.sg.a L.sg.l) := Lib.hid hL.sg.row
 have HSKL : Hid (sk < L.sg.l.length) := Lib.hid hsl
 have HKD := Lib.hid hk
 have HNN := Lib.hid hn
 clear hbm hsk hsl hsp hgs hbq h63 hxm hx hk hn
 have HSO := Lib.hid hs
 have HOC := Lib.hid ho
 obtain ⟨n1, hn1⟩ : ∃ n, L.se.l.length = n := ⟨_, rfl⟩
 obtain ⟨n2, hn2⟩ : ∃ n, L.po.l.length = n := ⟨_, rfl⟩
 obtain ⟨n3, hn3⟩ : ∃ n, L.sg.l.length = n := ⟨_, rfl⟩
 obtain ⟨n4, hn4⟩ : ∃ n, L.rt.l.length = n := ⟨_, rfl⟩
 have HLW := Lib.hid hL
 have HN1 := Lib.hid hn1
 have HN2 := Lib.hid hn2
 have HN3 := Lib.hid hn3
 have HN4 := Lib.hid hn4
 have KR : Hid (∀ (V : World) (g : Nat), V.heap[g]? = some (.cells #[.int .u8 (kd : Int), .int .i64 nn] 74) → Calls Try.prog 58 #[.agg #[.slice L.se.a n1 L.se.c, .slice L.po.a n2 L.po.c, .slice L.sg.a n3 L.sg.c, .slice L.rt.a n4 L.rt.c], .agg #[.int .u64 0, .int .u32 0, .int .u32 0, .slice (some ⟨g, 0, none⟩) 1 1]] V fun e w' => e = .returned (.bool true) ∧ Below V.heap.size V w') := Lib.hid (fun V g hg => by
  have h := refright_any n1 n2 n3 n4 L.se.a L.po.a L.sg.a L.rt.a L.se.c L.po.c L.sg.c L.rt.c 0 0 0 (some ⟨g, 0, none⟩) [(kd, nn)] 1 1 V rfl (by omega) (by rw [← hn1]; have := HS1.out; omega) (by rw [← hn2]; have := HS2.out; omega) (by rw [← hn4]; have := HS4.out; omega) (cmd_at hg (by omega) h1 h2) (by omega) (by omega) (by omega)
  rw [in_one, show min n2 32 = L.po.l.length by have := HS2.out; omega, show min n4 64 = L.rt.l.length by have := HS4.out; omega, HBR.out] at h
  exact h)
 rw [hn4] at HS4
 rw [slv hn1, slv hn2, slv hn3, slv hn4]
 have HROWL : Hid (RowAt 6 rtC w L.rt.a L.rt.l) := Lib.hid hL.rt.row
 clear hn1 hn2 hn3 hn4 hL hc hs ho hkd h1 h2
 go_enter Try.func29, Try.ntmps29
 go_upto_region 1 with fail
 rw [zero_st]
 refine name_last (os := [.cells #[.slice L.se.a n1 L.se.c, .slice L.po.a n2 L.po.c, .slice L.sg.a n3 L.sg.c, .slice L.rt.a n4 L.rt.c] 27, .cells (stL s).toArray 32, .cells #[.int .u64 (oc : Int), .int .u32 (no : Int), .int .u32 (re : Int), .slice ia il ic] 35, .cells #[.int .u8 (kd : Int), .int .i64 nn] 74, .cells (stL zS).toArray 32]) (w0 := w) rfl ?_
 intro W hat hbw
 obtain ⟨gl, hgl⟩ : ∃ g, g = w.heap.size := ⟨_, rfl⟩
 have q0 := hat 0 _ rfl
 obtain ⟨gs, hgs⟩ : ∃ g, g = gl + 1 := ⟨_, rfl⟩
 have q1 := hat 1 _ rfl
 obtain ⟨gi, hgi⟩ : ∃ g, g = gs + 1 := ⟨_, rfl⟩
 have q2 := hat 2 _ rfl
 obtain ⟨gc, hgc⟩ : ∃ g, g = gi + 1 := ⟨_, rfl⟩
 have q3 := hat 3 _ rfl
 obtain ⟨gr, hgr⟩ : ∃ g, g = gc + 1 := ⟨_, rfl⟩
 have q4 := hat 4 _ rfl
 rw [Nat.add_zero, ← hgl] at q0
 rw [← hgl, ← hgs] at q1
 rw [← hgl, show gl + 2 = gi by omega] at q2
 rw [← hgl, show gl + 3 = gc by omega] at q3
 rw [← hgl, show gl + 4 = gr by omega] at q4
 rw [← hgl, ← hgs, ← hgi, ← hgc, ← hgr]
 have HQl := Lib.hid q0
 have HQs := Lib.hid q1
 have HQi := Lib.hid q2
 have HQc := Lib.hid q3
 have HQr := Lib.hid q4
 have HB0 := Lib.hid hbw
 have HG : Hid (w.heap.size ≤ gs ∧ gr ≠ gs ∧ gl ≠ gs ∧ gi ≠ gs ∧ gc ≠ gs) := Lib.hid (by omega)
 have HGR : Hid (w.heap.size ≤ gr) := Lib.hid (by omega)
 clear hat hbw q0 q1 q2 q3 q4 hgl hgs hgi hgc hgr
 have l0 := blk_cell HQl.out 0 _ rfl
 have l1 := blk_cell HQl.out 1 _ rfl
 have l2 := blk_cell HQl.out 2 _ rfl
 have l3 := blk_cell HQl.out 3 _ rfl
 have m0 := blk_cell HQc.out 0 _ rfl
 have m1 := blk_cell HQc.out 1 _ rfl
 go_wp2_with fail
 have hbn := below1 W (.cells #[.int .u8 (kd : Int), .int .i64 nn] 74)
 have hqn := alloc1 W (.cells #[.int .u8 (kd : Int), .int .i64 nn] 74) (Below.refl _ _)
 refine (KR.out _ _ hqn).mono ?_
 rintro e w1 ⟨rfl, hb1⟩
 have HBW1 := Lib.hid (below_on hbn hb1)
 have HB1 := Lib.hid (below_on HB0.out HBW1.out)
 have HL1 := Lib.hid (blk_keep HBW1.out HQl.out)
 have HS1' := Lib.hid (blk_keep HBW1.out HQs.out)
 have HI1 := Lib.hid (blk_keep HBW1.out HQi.out)
 have HC1 := Lib.hid (blk_keep HBW1.out HQc.out)
 have HR1 := Lib.hid (blk_keep HBW1.out HQr.out)
 clear hbn hqn hb1 l0 l1 l2 l3 m0 m1 KR
 obtain ⟨X, hX⟩ : ∃ a, L.rt.a = a := ⟨_, rfl⟩
 have hl1 := HL1.out
 rw [hX] at hl1 ⊢
 have hrow := HROWL.out
 rw [hX] at hrow
 rcases hrow with hnil | ⟨xb, off, hxb, hc0⟩
 ·have hx9 := HXR.out
  rw [hnil] at hx9; cases hx9
 subst hxb
 have HL1 := Lib.hid hl1
 have HROW := Lib.hid hc0
 have hc := hc0
 have hyx := HXR.out
 have z0 := hc n _ hyx 0 _ rfl
 have z1 := hc n _ hyx 1 _ rfl
 have z2 := hc n _ hyx 2 _ rfl
 have z3 := hc n _ hyx 3 _ rfl
 have z4 := hc n _ hyx 4 _ rfl
 have z5 := hc n _ hyx 5 _ rfl
 rw [Nat.add_zero] at z0
 obtain ⟨p1, hp1⟩ : ∃ n, x.pa.l.length = n := ⟨_, rfl⟩
 obtain ⟨p2, hp2⟩ : ∃ n, x.po.l.length = n := ⟨_, rfl⟩
 obtain ⟨p3, hp3⟩ : ∃ n, x.ov.l.length = n := ⟨_, rfl⟩
 obtain ⟨p4, hp4⟩ : ∃ n, x.fl.l.length = n := ⟨_, rfl⟩
 rw [slv hp1] at z2
 rw [slv hp2] at z3
 rw [slv hp3] at z4
 rw [slv hp4] at z5
 have HZX := Lib.hid (And.intro z0 (And.intro z1 (And.intro z2 (And.intro z3 (And.intro z4 z5)))))
 clear z0 z1 z2 z3 z4 z5
 clear hX hl1 hc hc0 hyx
 have hn := HNN.out
 subst hn
 have k1 : ((kd : Int) == 1) = false := by have := HKD.out; simp; omega
 have k2 : ((kd : Int) == 2) = true := by have := HKD.out; simp; omega
 have k3 : ((kd : Int) == 3) = false := by have := HKD.out; simp; omega
 have m0 := blk_cell HC1.out 0 _ rfl
 have m1 := blk_cell HC1.out 1 _ rfl
 have s0 := blk_cell HS1'.out 0 _ (st_0 s)
 have s1 := blk_cell HS1'.out 1 _ (st_1 s)
 have s2 := blk_cell HS1'.out 2 _ (st_2 s)
 have a1 := HA1.out
 have a2 := HA2.out
 go_wp2_with fail
 refine (KHM.out _).mono ?_
 rintro e w2 ⟨rfl, hb2⟩
 clear m0 m1 s0 s1 s2 a1 a2 KHM
 have HS2' := Lib.hid (blk_keep hb2 HS1'.out)
 have HR2 := Lib.hid (blk_keep hb2 HR1.out)
 have HL2 := Lib.hid (blk_keep hb2 HL1.out)
 have HI2 := Lib.hid (blk_keep hb2 HI1.out)
 have HC2 := Lib.hid (blk_keep hb2 HC1.out)
 have HB2 := Lib.hid (below_on HB1.out hb2)
 clear hb2 HS1' HR1 HL1 HI1 HC1 HB1 HBW1
 cases bm with
 | false =>
   have HS1 := HS2'
   have HR1 := HR2
   have HC1 := HC2
   have HB1 := HB2
   go_upto_region 17 with fail
   refine wp_region_calm (by kernel_rfl) ?_ ?_
   ·kernel_rfl
   repeat first
    | go_big_quiet_skip
    | (go_big_quiet_want
       (first
         | ((with_reducible refine quiet_load_is (o := ⟨some 124, _, _, _, _, _⟩) 5 _ rfl (.pointer (some ⟨gc, 0, none⟩)) (.int .u8 (kd : Int)) ?_ ?_ ?_); (· rfl); (· intro w' hw'; have l := blk_cell (blk_keep hw' HC1.out) 0 _ rfl; go_simp)))
       simp only [Act.put, List.setIfInBounds_toArray, List.set_cons_zero, List.set_cons_succ]
       go_big_quiet_on)
    | (go_big_quiet_want; go_big_quiet_op; go_big_quiet_on)
    | (with_reducible apply wpQuiet_step
       intro K hK
       go_simp
       first
        | (refine hK _ ?_; clear hK K)
        | (apply Exists.intro
           refine ⟨fun w' hw' => ?_, hK _ ?_⟩
           ·
            (first
             | (skip
                go_simp
                first | done | with_reducible exact rfl | with_reducible exact ⟨rfl, rfl⟩))
           clear hK K))
   refine wpQuiet_nil ?_
   intro w7 hw7
   have HB7 := Lib.hid (below_on HB1.out hw7)
   have HSx := Lib.hid (blk_keep hw7 HS1.out)
   have HRx := Lib.hid (blk_keep hw7 HR1.out)
   have HBx := Lib.hid (below_on HB1.out hw7)
   clear hw7
   go_upto_region 19 with fail
   have HLD := Lib.hid (load_st HSx.out)
   obtain ⟨hst, hq9, ho9⟩ := store_st (s' := s) HRx.out
   have HST := Lib.hid hst
   have HQ9 := Lib.hid hq9
   have HB9 : Hid (Below w.heap.size w (w7.setCells gr 0 (stL s))) := Lib.hid (Only.below HBx.out HGR.out HBx.out.size ho9)
   clear hst hq9 ho9
   go_wp2_with (first
    | ((with_reducible refine wpList_load_is (op := ⟨some 152, _, _, _, _, _⟩) rfl 32 _ rfl _ _ ?_ HLD.out ?_); (· rfl))
    | ((with_reducible refine wpList_store_is (op := ⟨none, .store 32 _ _, _, _, _, _⟩) rfl 32 _ _ rfl _ _ ?_ ?_ _ HST.out ?_); (· rfl); (· rfl)))
   (try simp only [Exit.inBlock, Exit.then])
   refine bodyPost_ret (results_cell_row (g := gr) rfl _ _ 32 (stL s).toArray (0, 0) _ rfl HQ9.out Try.underlying32 rfl (by rw [List.size_toArray, st_len]; exact info_st)) rfl ?_
   exact ⟨by rw [HEQ.out]; rfl, HB9.out⟩
 | true =>
   have HS1 := HS2'
   have HR1 := HR2
   have HL1 := HL2
   have HI1 := HI2
   have HC1 := HC2
   have HB1 := HB2
   clear HS2' HR2 HL2 HI2 HC2 HB2
   go_upto_region 13 with fail
   refine wp_region_rel (by kernel_rfl) [7] 10 [0, 1, 2, 3, 4, 5, 6] [92, 93, 94, 95, 96, 97, 98] #[true, true, true, true, true, true, true, false] 1 [(fun v _ => v = .pointer (some ⟨gs, 2, none⟩)), (fun v _ => v = .int .u64 (s.ca : Int)), (fun v _ => v = .pointer (some ⟨gc, 1, none⟩)), (fun v _ => v = .int .i64 (n : Int)), (fun v _ => v = .int .u64 (pw n : Int)), (fun v _ => v = .int .u64 ((withBit s.ca n : Nat) : Int)), (fun v _ => v = .pointer (some ⟨gs, 2, none⟩)), (fun _ _ => True)] (by kernel_rfl) (by kernel_rfl) (by kernel_rfl) (by kernel_rfl) (by kernel_rfl) rfl (by kernel_rfl) rfl ?_ ?_ ?_
   ·exact ⟨stays_is _, stays_is _, stays_is _, stays_is _, stays_is _, stays_is _, stays_is _, stays_true, trivial⟩
   ·refine ⟨?_, ?_, ?_, ?_, ?_, ?_, ?_, trivial⟩
    ·refine relOb_mk (o := ⟨some 92, _, _, _, _, _⟩) rfl (fun r V hc hf hg hs hb hd => ?_)
     have x5 : r (.tmp 5) = .pointer (some ⟨gs, 0, none⟩) := hs 5 (by kernel_rfl)
     clear hs hd hg
     go_simp
     exact ⟨Below.refl _ _, rfl⟩
    ·refine relOb_mk (o := ⟨some 93, _, _, _, _, _⟩) rfl (fun r V hc hf hg hs hb hd => ?_)
     have h0 : r (.tmp 92) = .pointer (some ⟨gs, 2, none⟩) := hd 0 92 rfl (by kernel_rfl)
     clear hs hd hg
     have l := blk_cell (blk_keep hb HS1.out) 2 _ (st_2 _)
     go_simp
     exact ⟨Below.refl _ _, rfl⟩
    ·refine relOb_mk (o := ⟨some 94, _, _, _, _, _⟩) rfl (fun r V hc hf hg hs hb hd => ?_)
     have x7 : r (.tmp 7) = .pointer (some ⟨gc, 0, none⟩) := hs 7 (by kernel_rfl)
     clear hs hd hg
     go_simp
     exact ⟨Below.refl _ _, rfl⟩
    ·refine relOb_mk (o := ⟨some 95, _, _, _, _, _⟩) rfl (fun r V hc hf hg hs hb hd => ?_)
     have h2 : r (.tmp 94) = .pointer (some ⟨gc, 1, none⟩) := hd 2 94 rfl (by kernel_rfl)
     clear hs hd hg
     have l := blk_cell (blk_keep hb HC1.out) 1 _ rfl
     go_simp
     exact ⟨Below.refl _ _, rfl⟩
    ·refine relOb_mk (o := ⟨some 96, _, _, _, _, _⟩) rfl (fun r V hc hf hg hs hb hd => ?_)
     have h3 : r (.tmp 95) = .int .i64 (n : Int) := hd 3 95 rfl (by kernel_rfl)
     clear hs hd hg
     have h63 := HN63.out
     have h0 : (0 : Int) ≤ n := by omega
     have h1 : min n 64 = n := by omega
     have h2 : ¬ (64 : Int) ≤ n := by omega
     have hs1 := one_form n h63
     go_simp
     exact ⟨Below.refl _ _, by simp⟩
    ·refine relOb_mk (o := ⟨some 97, _, _, _, _, _⟩) rfl (fun r V hc hf hg hs hb hd => ?_)
     have h1 : r (.tmp 93) = .int .u64 (s.ca : Int) := hd 1 93 rfl (by kernel_rfl)
     have h4 : r (.tmp 96) = .int .u64 (pw n : Int) := hd 4 96 rfl (by kernel_rfl)
     clear hs hd hg
     have ho1 := or_form s.ca n HN63.out HSO.out.ca
     go_simp
     exact ⟨Below.refl _ _, rfl⟩
    ·refine relOb_mk (o := ⟨some 98, _, _, _, _, _⟩) rfl (fun r V hc hf hg hs hb hd => ?_)
     have x5 : r (.tmp 5) = .pointer (some ⟨gs, 0, none⟩) := hs 5 (by kernel_rfl)
     clear hs hd hg
     go_simp
     exact ⟨Below.refl _ _, rfl⟩
   ·intro a V hb hx
    have h0 : a.eval (.tmp 92) = .pointer (some ⟨gs, 2, none⟩) := hx 0 92 rfl rfl
    have h1 : a.eval (.tmp 93) = .int .u64 (s.ca : Int) := hx 1 93 rfl rfl
    have h2 : a.eval (.tmp 94) = .pointer (some ⟨gc, 1, none⟩) := hx 2 94 rfl rfl
    have h3 : a.eval (.tmp 95) = .int .i64 (n : Int) := hx 3 95 rfl rfl
    have h4 : a.eval (.tmp 96) = .int .u64 (pw n : Int) := hx 4 96 rfl rfl
    have h5 : a.eval (.tmp 97) = .int .u64 ((withBit s.ca n : Nat) : Int) := hx 5 97 rfl rfl
    have h6 : a.eval (.tmp 98) = .pointer (some ⟨gs, 2, none⟩) := hx 6 98 rfl rfl
    unfold fillAll
    simp only [List.foldl_cons, List.foldl_nil, h0, h1, h2, h3, h4, h5, h6, Act.put, List.setIfInBounds_toArray, List.set_cons_zero, List.set_cons_succ]
    clear h0 h1 h2 h3 h4 h5 h6 hx
    have HSV := Lib.hid (blk_keep hb HS1.out)
    have HRV := Lib.hid (blk_keep hb HR1.out)
    have HLV := Lib.hid (blk_keep hb HL1.out)
    have HIV := Lib.hid (blk_keep hb HI1.out)
    have HCV := Lib.hid (blk_keep hb HC1.out)
    have HBV := Lib.hid (below_on HB1.out hb)
    clear hb HB1 HS1 HR1 HL1 HI1 HC1
    refine wpAny_ready (rs := [7]) (by kernel_rfl) (by simp) (AllReady.cons (o := ⟨none, _, _, _, _, _⟩) rfl (fun K hK => ?_) AllReady.nil)
    have c0 := blk_cell HSV.out 2 _ (st_2 _)
    have f0 := blk_free HSV.out 2
    have hl := blk_lt HSV.out
    go_simp
    clear c0 f0 hl
    refine name_K ?_
    intro V3 hV3
    have ho : Only gs V V3 := by rw [hV3]; exact (Only.refl gs V).setCell rfl _
    have HSb : Hid (V3.heap[gs]? = some (.cells (stL { s with ca := withBit s.ca n }).toArray 32)) := Lib.hid (by rw [hV3]; exact (blk_set HSV.out 2 _).trans (congrArg (fun C => some (Obj.cells C 32)) (st_s2 _ _)))
    have HBb : Hid (Below w.heap.size w V3) := Lib.hid (Only.below HBV.out HG.out.1 HBV.out.size ho)
    have HRb := Lib.hid (Only.keep ho HG.out.2.1 HRV.out)
    have HLb := Lib.hid (Only.keep ho HG.out.2.2.1 HLV.out)
    have HIb := Lib.hid (Only.keep ho HG.out.2.2.2.1 HIV.out)
    have HCb := Lib.hid (Only.keep ho HG.out.2.2.2.2 HCV.out)
    clear hV3 ho HSV HBV HRV HLV HIV HCV
    refine hK _ _ ?_
    clear hK K
    refine wpAny_done (by kernel_rfl) ?_ _
    have d3 : (0 : Int) ≤ n := by omega
    have d4 : (n : Int) < 64 := by have := HN64.out; omega
    have c0 := blk_cell HSb.out (3 + n) _ (st_tm9 _ HN64.out)
    have f0 := blk_free HSb.out (3 + n)
    have hl := blk_lt HSb.out
    have m1 := blk_cell HCb.out 1 _ rfl
    go_upto_region 15 with fail
    clear c0 f0 hl m1 d3 d4
    have HBV := HBb
    have HSV := HSb
    have HRV := HRb
    have HLV := HLb
    have HIV := HIb
    have HCV := HCb
    refine name_any ?_
    intro V4 hV4
    have ho : Only gs V3 V4 := by rw [hV4]; exact (Only.refl gs V3).setCell rfl _
    have HSc : Hid (V4.heap[gs]? = some (.cells (stL { s with ca := withBit s.ca n, tm := upd s.tm n 0 }).toArray 32)) := Lib.hid (by rw [hV4]; exact (blk_set HSV.out (3 + n) _).trans (congrArg (fun C => some (Obj.cells C 32)) (st_stm _ 0 HN64.out)))
    have HBc : Hid (Below w.heap.size w V4) := Lib.hid (Only.below HBV.out HG.out.1 HBV.out.size ho)
    have HRc := Lib.hid (Only.keep ho HG.out.2.1 HRV.out)
    have HLc := Lib.hid (Only.keep ho HG.out.2.2.1 HLV.out)
    have HIc := Lib.hid (Only.keep ho HG.out.2.2.2.1 HIV.out)
    have HCc := Lib.hid (Only.keep ho HG.out.2.2.2.2 HCV.out)
    clear hV4 ho HSV HBV HRV HLV HIV HCV
    obtain ⟨SA, hSA⟩ : ∃ a, L.sg.a = a := ⟨_, rfl⟩
    have hl3 := HLc.out
    have hrow := HSGR.out
    rw [hSA] at hl3 hrow ⊢
    rcases hrow with hnil | ⟨sb, so, hsb, hsc⟩
    ·have h9 := HSP.out; rw [hnil] at h9; cases h9
    subst hsb
    have HLc := Lib.hid hl3
    have HS1C : Hid (w.cell? ⟨sb, so + sk * 2 + 1, none⟩ = some (.int .i64 (q : Int))) := Lib.hid (hsc sk _ HSP.out 1 _ rfl)
    have sk0 : (0 : Int) ≤ sk := by omega
    have sk1 : (sk : Int) < n3 := by have := HSKL.out; have := HN3.out; omega
    have d1 : (0 : Int) ≤ n := by omega
    have d2 : (n : Int) < n4 := by have h := (List.getElem?_eq_some_iff.1 HXR.out).1; have := HN4.out; omega
    clear hSA hl3 hsc
    have KCLW : Hid (∀ w', Below V4.heap.size V4 w' → Calls Try.prog 60 #[.agg #[.int .u64 (oc : Int), .int .u32 (no : Int), .int .u32 (re : Int), .slice ia il ic], .int .i64 (q : Int)] w' fun e w'' => e = .returned (.bool (!bq)) ∧ Below V4.heap.size V4 w'') := Lib.hid (fun w' hw' => (KCL.out w').mono (fun _ _ h => ⟨h.1, below_on hw' h.2⟩))
    refine wp_region_calm (by kernel_rfl) ?_ ?_
    ·kernel_rfl
    repeat first
     | go_big_quiet_skip
     | (go_big_quiet_want
        (first
          | ((with_reducible refine quiet_load_is (o := ⟨some 103, _, _, _, _, _⟩) 35 _ rfl (.pointer (some ⟨gi, 0, none⟩)) (.agg #[.int .u64 (oc : Int), .int .u32 (no : Int), .int .u32 (re : Int), .slice ia il ic]) ?_ ?_ ?_); (· rfl); (· intro w' hw'; have l0 := blk_cell (blk_keep hw' HIc.out) 0 _ rfl; have l1 := blk_cell (blk_keep hw' HIc.out) 1 _ rfl; have l2 := blk_cell (blk_keep hw' HIc.out) 2 _ rfl; have l3 := blk_cell (blk_keep hw' HIc.out) 3 _ rfl; go_simp))
          | ((with_reducible refine quiet_load_is (o := ⟨some 105, _, _, _, _, _⟩) 24 _ rfl (.pointer (some ⟨gl, 2, none⟩)) (.slice (some ⟨sb, so, none⟩) n3 L.sg.c) ?_ ?_ ?_); (· rfl); (· intro w' hw'; have l := blk_cell (blk_keep hw' HLc.out) 2 _ rfl; go_simp))
          | ((with_reducible refine quiet_load_is (o := ⟨some 107, _, _, _, _, _⟩) 25 _ rfl (.pointer (some ⟨gl, 3, none⟩)) (.slice (some ⟨xb, off, none⟩) n4 L.rt.c) ?_ ?_ ?_); (· rfl); (· intro w' hw'; have l := blk_cell (blk_keep hw' HLc.out) 3 _ rfl; go_simp))
          | ((with_reducible refine quiet_load_is (o := ⟨some 109, _, _, _, _, _⟩) 3 _ rfl (.pointer (some ⟨gc, 1, none⟩)) (.int .i64 (n : Int)) ?_ ?_ ?_); (· rfl); (· intro w' hw'; have l := blk_cell (blk_keep hw' HCc.out) 1 _ rfl; go_simp))
          | ((with_reducible refine quiet_load_is (o := ⟨some 112, _, _, _, _, _⟩) 3 _ rfl (.pointer (some ⟨xb, off + n * 6 + 1, none⟩)) (.int .i64 (sk : Int)) ?_ ?_ ?_); (· rfl); (· intro w' hw'; have z1 := cell_later (below_on HBc.out hw') HZX.out.2.1; rw [HSK.out] at z1; go_simp))
          | ((with_reducible refine quiet_load_is (o := ⟨some 115, _, _, _, _, _⟩) 3 _ rfl (.pointer (some ⟨sb, so + sk * 2 + 1, none⟩)) (.int .i64 (q : Int)) ?_ ?_ ?_); (· rfl); (· intro w' hw'; have y1 := cell_later (below_on HBc.out hw') HS1C.out; go_simp)))
        simp only [Act.put, List.setIfInBounds_toArray, List.set_cons_zero, List.set_cons_succ]
        go_big_quiet_on)
     | (go_big_quiet_want; go_big_quiet_op; go_big_quiet_on)
     | (with_reducible apply wpQuiet_step
        intro K hK
        go_simp
        first
         | (refine hK _ ?_; clear hK K)
         | (apply Exists.intro
            refine ⟨fun w' hw' => ?_, hK _ ?_⟩
            ·
             (first
              | with_reducible exact KCLW.out _ hw'
              | (skip
                 go_simp
                 first | done | with_reducible exact rfl | with_reducible exact ⟨rfl, rfl⟩ | with_reducible exact KCLW.out _ hw'))
            clear hK K))
    refine wpQuiet_nil ?_
    intro w7 hw7
    have HB7 := Lib.hid (below_on HBc.out hw7)
    have HSd := Lib.hid (blk_keep hw7 HSc.out)
    have HRd := Lib.hid (blk_keep hw7 HRc.out)
    have HLd := Lib.hid (blk_keep hw7 HLc.out)
    have HId := Lib.hid (blk_keep hw7 HIc.out)
    have HCd := Lib.hid (blk_keep hw7 HCc.out)
    have HBd := Lib.hid (below_on HBc.out hw7)
    clear hw7
    cases bq with
    | false =>
      go_upto_region 19 with fail
      have HLD := Lib.hid (load_st HSd.out)
      obtain ⟨hst, hq9, ho9⟩ := store_st (s' := { s with ca := withBit s.ca n, tm := upd s.tm n 0 }) HRd.out
      have HST := Lib.hid hst
      have HQ9 := Lib.hid hq9
      have HB9 : Hid (Below w.heap.size w (w7.setCells gr 0 (stL { s with ca := withBit s.ca n, tm := upd s.tm n 0 }))) := Lib.hid (Only.below HBd.out HGR.out HBd.out.size ho9)
      clear hst hq9 ho9
      go_wp2_with (first
       | ((with_reducible refine wpList_load_is (op := ⟨some 152, _, _, _, _, _⟩) rfl 32 _ rfl _ _ ?_ HLD.out ?_); (· rfl))
       | ((with_reducible refine wpList_store_is (op := ⟨none, .store 32 _ _, _, _, _, _⟩) rfl 32 _ _ rfl _ _ ?_ ?_ _ HST.out ?_); (· rfl); (· rfl)))
      (try simp only [Exit.inBlock, Exit.then])
      refine bodyPost_ret (results_cell_row (g := gr) rfl _ _ 32 (stL { s with ca := withBit s.ca n, tm := upd s.tm n 0 }).toArray (0, 0) _ rfl HQ9.out Try.underlying32 rfl (by rw [List.size_toArray, st_len]; exact info_st)) rfl ?_
      exact ⟨by rw [HEQ.out]; rfl, HB9.out⟩
    | true =>
      have d3 : (0 : Int) ≤ n := by omega
      have d4 : (n : Int) < 64 := by have := HN64.out; omega
      have c0 := blk_cell HSd.out (3 + n) _ (st_tm9 _ HN64.out)
      have f0 := blk_free HSd.out (3 + n)
      have hl := blk_lt HSd.out
      have m1 := blk_cell HCd.out 1 _ rfl
      go_upto_region 19 with fail
      clear c0 f0 hl m1 d3 d4
      have HBV := HBd
      have HSV := HSd
      have HRV := HRd
      have HLV := HLd
      have HIV := HId
      have HCV := HCd
      refine name_any ?_
      intro V5 hV5
      have ho : Only gs w7 V5 := by rw [hV5]; exact (Only.refl gs w7).setCell rfl _
      have HSe : Hid (V5.heap[gs]? = some (.cells (stL { s with ca := withBit s.ca n, tm := upd (upd s.tm n 0) n 20 }).toArray 32)) := Lib.hid (by rw [hV5]; exact (blk_set HSV.out (3 + n) _).trans (congrArg (fun C => some (Obj.cells C 32)) (st_stm _ 20 HN64.out)))
      have HBe : Hid (Below w.heap.size w V5) := Lib.hid (Only.below HBV.out HG.out.1 HBV.out.size ho)
      have HRe := Lib.hid (Only.keep ho HG.out.2.1 HRV.out)
      have HLe := Lib.hid (Only.keep ho HG.out.2.2.1 HLV.out)
      have HIe := Lib.hid (Only.keep ho HG.out.2.2.2.1 HIV.out)
      have HCe := Lib.hid (Only.keep ho HG.out.2.2.2.2 HCV.out)
      clear hV5 ho HSV HBV HRV HLV HIV HCV
      have HLD := Lib.hid (load_st HSe.out)
      obtain ⟨hst, hq9, ho9⟩ := store_st (s' := { s with ca := withBit s.ca n, tm := upd (upd s.tm n 0) n 20 }) HRe.out
      have HST := Lib.hid hst
      have HQ9 := Lib.hid hq9
      have HB9 : Hid (Below w.heap.size w (V5.setCells gr 0 (stL { s with ca := withBit s.ca n, tm := upd (upd s.tm n 0) n 20 }))) := Lib.hid (Only.below HBe.out HGR.out HBe.out.size ho9)
      clear hst hq9 ho9
      go_wp2_with (first
       | ((with_reducible refine wpList_load_is (op := ⟨some 152, _, _, _, _, _⟩) rfl 32 _ rfl _ _ ?_ HLD.out ?_); (· rfl))
       | ((with_reducible refine wpList_store_is (op := ⟨none, .store 32 _ _, _, _, _, _⟩) rfl 32 _ _ rfl _ _ ?_ ?_ _ HST.out ?_); (· rfl); (· rfl)))
      (try simp only [Exit.inBlock, Exit.then])
      refine bodyPost_ret (results_cell_row (g := gr) rfl _ _ 32 (stL { s with ca := withBit s.ca n, tm := upd (upd s.tm n 0) n 20 }).toArray (0, 0) _ rfl HQ9.out Try.underlying32 rfl (by rw [List.size_toArray, st_len]; exact info_st)) rfl ?_
      exact ⟨by rw [HEQ.out, upd_upd]; rfl, HB9.out⟩
end Go.Proofs.Ytjienmjpfklgeaa
