/-
 Layer 10: the document's command: set.
-/
import Derived.Test.YtjienmjpfklgeaaIxTc
import Derived.Test.YtjienmjpfklgeaaIxN
namespace Go.Proofs.Ytjienmjpfklgeaa
open Go.RowKit
set_option maxRecDepth 100000
attribute [local irreducible] Sl.v hasBit pw withBit woBit cyL stL stV tmL freeS ndBad maySet ptL setS mayCan canS canD nedS flipB mayMov movS comG relS rouS proS tidyS comsG rousS prosS nextG outS lnOk rightK rgtS eqS Mc.tb upd mayS checkS sideN
attribute [local irreducible] tbL rwL secOf cofL Rt.tr Rt.nd conflictS pairS formedS
attribute [local irreducible] mskS
attribute [local irreducible] RwV

set_option maxHeartbeats 16000000 in
theorem dcmd_1 (L : Lay) (s : St) (oc no re : Nat) (ia : Option Addr) (il ic : Nat) (kd : Nat) (nn : Int) (w : World) (hL : LayAt w L) (hc : (checkS L).1 = 0) (hs : s.ok) (ho : oc < 18446744073709551616) (hkd : kd ≤ 255) (h1 : -9223372036854775808 ≤ nn) (h2 : nn ≤ 9223372036854775807) (hk : kd = 1) (n : Nat) (x : Rt) (hn : nn = (n : Int)) (hx : L.rt.l[n]? = some x) :
 Calls Try.prog 29 #[.agg #[L.se.v, L.po.v, L.sg.v, L.rt.v], .agg (stL s).toArray, .agg #[.int .u64 (oc : Int), .int .u32 (no : Int), .int .u32 (re : Int), .slice ia il ic], .agg #[.int .u8 (kd : Int), .int .i64 nn]] w fun e w' => e = .returned (.agg (stL (comD (tbL L) s oc (kd, nn))).toArray) ∧ Below w.heap.size w w' := by
 have HMAY : Hid (mayS L = true) := Lib.hid (cs_zero hc)
 have HS4 : Hid (L.rt.l.length ≤ 64) := Lib.hid (mayS_small (cs_zero hc)).2.2.2
 have HCK := Lib.hid hc
 have HS2 : Hid (L.po.l.length ≤ 32) := Lib.hid (mayS_small (cs_zero hc)).2.1
 have HS1 : Hid (L.se.l.length ≤ 64) := Lib.hid (mayS_small (cs_zero hc)).1
 have HBR : Hid (cmdRight L.po.l.length L.rt.l.length (kd, nn) = true) := Lib.hid (by
  have hl := (List.getElem?_eq_some_iff.1 hx).1
  unfold cmdRight
  exact decide_eq_true (by dsimp only; omega))
 have h63 : n ≤ 63 := by have h1 := (List.getElem?_eq_some_iff.1 hx).1; have := HS4.out; omega
 have hxm := List.mem_of_getElem? hx
 have HN63 := Lib.hid h63
 have HN64 : Hid (n < 64) := Lib.hid (by omega)
 have HXR := Lib.hid hx
 obtain ⟨bs, hbs⟩ : ∃ b, maySet (tbL L) s oc n (rwL L n x) = b := ⟨_, rfl⟩
 have HEQ : Hid (comD (tbL L) s oc (kd, nn) = if bs then { s with lk := withBit s.lk n, pt := ptL x.nd s.pt } else s) := Lib.hid (by
  rw [hn, hk, cmd_set hx, set_if, hbs, rwl_nd])
 have KSET : Hid (∀ V, Below w.heap.size w V → Calls Try.prog 59 #[.agg #[L.se.v, L.po.v, L.sg.v, L.rt.v], .agg (stL s).toArray, .agg #[.int .u64 (oc : Int), .int .u32 (no : Int), .int .u32 (re : Int), .slice ia il ic], .int .i64 (n : Int)] V fun e w' => e = .returned (.bool bs) ∧ Below V.heap.size V w') := Lib.hid (fun V hV => hbs ▸ dset_is L s oc no re ia il ic n x V (hL.below hV) hc hs ho hx)
 have KND0 : Hid (∀ (g : Nat) (V : World), Below w.heap.size w V → g < V.heap.size → Calls Try.prog 45 #[.agg #[.string x.nm, .int .i64 x.sg, x.pa.v, x.po.v, x.ov.v, x.fl.v]] V fun e w' => ∃ v, e = .returned v ∧ RwV 2 ndC (fun b => b = g) w' x.nd v ∧ Below V.heap.size V w') := Lib.hid (fun g V hV hg => by
  have ok := mayS_rt HMAY.out x hxm
  refine (rneeds_own x V ((hL.rn x hxm).below hV) (by have := ok.po; have := ok.fl; omega)).mono (fun _ _ ⟨a, m, c, e1, e2, e3, e4, e5⟩ => ⟨_, e1, rwv_new ?_ (by unfold Rt.nd; exact e3) e5 (fun b hb => by have hb : b = g := hb; omega), e4⟩)
  rw [e2]; unfold Rt.nd; rw [List.length_append])
 have HNL : Hid (x.nd.length ≤ 100000) := Lib.hid (by have ok := mayS_rt HMAY.out x hxm; have := ok.po; have := ok.fl; unfold Rt.nd; rw [List.length_append]; omega)
 have HNB : Hid (∀ n ∈ x.nd, 0 ≤ n.1 ∧ n.1 ≤ 31) := Lib.hid (fun n hn => by have h := t_nd HMAY.out x hxm n hn; have := HS2.out; omega)
 have HKD := Lib.hid hk
 have HNN := Lib.hid hn
 clear hbs h63 hxm hx hk hn
 have HSO := Lib.hid hs
 have HOC := Lib.hid ho
 obtain ⟨n1, hn1⟩ : ∃ n, L.se.l.length = n := ⟨_, rfl⟩
 obtain ⟨n2, hn2⟩ : ∃ n, L.po.l.length = n := ⟨_, rfl⟩
 obtain ⟨n3, hn3⟩ : ∃ n, L.sg.l.length = n := ⟨_, rfl⟩
 obtain ⟨n4, hn4⟩ : ∃ n, L.rt.l.length = n := ⟨_, rfl⟩
 have HLW := Lib.hid hL
 have HN1 := Lib.hid hn1
 have HN2 := Lib.hid hn2
 have HN3 := Lib.hid hn3
 have HN4 := Lib.hid hn4
 have KR : Hid (∀ (V : World) (g : Nat), V.heap[g]? = some (.cells #[.int .u8 (kd : Int), .int .i64 nn] 74) → Calls Try.prog 58 #[.agg #[.slice L.se.a n1 L.se.c, .slice L.po.a n2 L.po.c, .slice L.sg.a n3 L.sg.c, .slice L.rt.a n4 L.rt.c], .agg #[.int .u64 0, .int .u32 0, .int .u32 0, .slice (some ⟨g, 0, none⟩) 1 1]] V fun e w' => e = .returned (.bool true) ∧ Below V.heap.size V w') := Lib.hid (fun V g hg => by
  have h := refright_any n1 n2 n3 n4 L.se.a L.po.a L.sg.a L.rt.a L.se.c L.po.c L.sg.c L.rt.c 0 0 0 (some ⟨g, 0, none⟩) [(kd, nn)] 1 1 V rfl (by omega) (by rw [← hn1]; have := HS1.out; omega) (by rw [← hn2]; have := HS2.out; omega) (by rw [← hn4]; have := HS4.out; omega) (cmd_at hg (by omega) h1 h2) (by omega) (by omega) (by omega)
  rw [in_one, show min n2 32 = L.po.l.length by have := HS2.out; omega, show min n4 64 = L.rt.l.length by have := HS4.out; omega, HBR.out] at h
  exact h)
 rw [slv hn1, slv hn2, slv hn3, slv hn4] at KSET
 rw [hn4] at HS4
 rw [slv hn1, slv hn2, slv hn3, slv hn4]
 have HROWL : Hid (RowAt 6 rtC w L.rt.a L.rt.l) := Lib.hid hL.rt.row
 clear hn1 hn2 hn3 hn4 hL hc hs ho hkd h1 h2
 go_enter Try.func29, Try.ntmps29
 go_upto_region 1 with fail
 rw [zero_st]
 refine name_last (os := [.cells #[.slice L.se.a n1 L.se.c, .slice L.po.a n2 L.po.c, .slice L.sg.a n3 L.sg.c, .slice L.rt.a n4 L.rt.c] 27, .cells (stL s).toArray 32, .cells #[.int .u64 (oc : Int), .int .u32 (no : Int), .int .u32 (re : Int), .slice ia il ic] 35, .cells #[.int .u8 (kd : Int), .int .i64 nn] 74, .cells (stL zS).toArray 32]) (w0 := w) rfl ?_
 intro W hat hbw
 obtain ⟨gl, hgl⟩ : ∃ g, g = w.heap.size := ⟨_, rfl⟩
 have q0 := hat 0 _ rfl
 obtain ⟨gs, hgs⟩ : ∃ g, g = gl + 1 := ⟨_, rfl⟩
 have q1 := hat 1 _ rfl
 obtain ⟨gi, hgi⟩ : ∃ g, g = gs + 1 := ⟨_, rfl⟩
 have q2 := hat 2 _ rfl
 obtain ⟨gc, hgc⟩ : ∃ g, g = gi + 1 := ⟨_, rfl⟩
 have q3 := hat 3 _ rfl
 obtain ⟨gr, hgr⟩ : ∃ g, g = gc + 1 := ⟨_, rfl⟩
 have q4 := hat 4 _ rfl
 rw [Nat.add_zero, ← hgl] at q0
 rw [← hgl, ← hgs] at q1
 rw [← hgl, show gl + 2 = gi by omega] at q2
 rw [← hgl, show gl + 3 = gc by omega] at q3
 rw [← hgl, show gl + 4 = gr by omega] at q4
 rw [← hgl, ← hgs, ← hgi, ← hgc, ← hgr]
 have HQl := Lib.hid q0
 have HQs := Lib.hid q1
 have HQi := Lib.hid q2
 have HQc := Lib.hid q3
 have HQr := Lib.hid q4
 have HB0 := Lib.hid hbw
 have HG : Hid (w.heap.size ≤ gs ∧ gr ≠ gs ∧ gl ≠ gs ∧ gi ≠ gs ∧ gc ≠ gs) := Lib.hid (by omega)
 have HGR : Hid (w.heap.size ≤ gr) := Lib.hid (by omega)
 clear hat hbw q0 q1 q2 q3 q4 hgl hgs hgi hgc hgr
 have l0 := blk_cell HQl.out 0 _ rfl
 have l1 := blk_cell HQl.out 1 _ rfl
 have l2 := blk_cell HQl.out 2 _ rfl
 have l3 := blk_cell HQl.out 3 _ rfl
 have m0 := blk_cell HQc.out 0 _ rfl
 have m1 := blk_cell HQc.out 1 _ rfl
 go_wp2_with fail
 have hbn := below1 W (.cells #[.int .u8 (kd : Int), .int .i64 nn] 74)
 have hqn := alloc1 W (.cells #[.int .u8 (kd : Int), .int .i64 nn] 74) (Below.refl _ _)
 refine (KR.out _ _ hqn).mono ?_
 rintro e w1 ⟨rfl, hb1⟩
 have HBW1 := Lib.hid (below_on hbn hb1)
 have HB1 := Lib.hid (below_on HB0.out HBW1.out)
 have HL1 := Lib.hid (blk_keep HBW1.out HQl.out)
 have HS1' := Lib.hid (blk_keep HBW1.out HQs.out)
 have HI1 := Lib.hid (blk_keep HBW1.out HQi.out)
 have HC1 := Lib.hid (blk_keep HBW1.out HQc.out)
 have HR1 := Lib.hid (blk_keep HBW1.out HQr.out)
 clear hbn hqn hb1 l0 l1 l2 l3 m0 m1 KR
 obtain ⟨X, hX⟩ : ∃ a, L.rt.a = a := ⟨_, rfl⟩
 have hl1 := HL1.out
 rw [hX] at hl1 KSET ⊢
 have hrow := HROWL.out
 rw [hX] at hrow
 rcases hrow with hnil | ⟨xb, off, hxb, hc0⟩
 ·have hx9 := HXR.out
  rw [hnil] at hx9; cases hx9
 subst hxb
 have HL1 := Lib.hid hl1
 have HROW := Lib.hid hc0
 have hc := hc0
 have hyx := HXR.out
 have z0 := hc n _ hyx 0 _ rfl
 have z1 := hc n _ hyx 1 _ rfl
 have z2 := hc n _ hyx 2 _ rfl
 have z3 := hc n _ hyx 3 _ rfl
 have z4 := hc n _ hyx 4 _ rfl
 have z5 := hc n _ hyx 5 _ rfl
 rw [Nat.add_zero] at z0
 obtain ⟨p1, hp1⟩ : ∃ n, x.pa.l.length = n := ⟨_, rfl⟩
 obtain ⟨p2, hp2⟩ : ∃ n, x.po.l.length = n := ⟨_, rfl⟩
 obtain ⟨p3, hp3⟩ : ∃ n, x.ov.l.length = n := ⟨_, rfl⟩
 obtain ⟨p4, hp4⟩ : ∃ n, x.fl.l.length = n := ⟨_, rfl⟩
 rw [slv hp1] at z2
 rw [slv hp2] at z3
 rw [slv hp3] at z4
 rw [slv hp4] at z5
 have HZX := Lib.hid (And.intro z0 (And.intro z1 (And.intro z2 (And.intro z3 (And.intro z4 z5)))))
 clear z0 z1 z2 z3 z4 z5
 have KND := Lib.hid KND0.out
 rw [slv hp1, slv hp2, slv hp3, slv hp4] at KND
 clear KND0 hp1 hp2 hp3 hp4
 clear hX hl1 hc hc0 hyx
 have hn := HNN.out
 subst hn
 have k1 : ((kd : Int) == 1) = true := by have := HKD.out; simp; omega
 have k2 : ((kd : Int) == 2) = false := by have := HKD.out; simp; omega
 have k3 : ((kd : Int) == 3) = false := by have := HKD.out; simp; omega
 have m0 := blk_cell HC1.out 0 _ rfl
 have m1 := blk_cell HC1.out 1 _ rfl
 have l0 := blk_cell HL1.out 0 _ rfl
 have l1 := blk_cell HL1.out 1 _ rfl
 have l2 := blk_cell HL1.out 2 _ rfl
 have l3 := blk_cell HL1.out 3 _ rfl
 have i0 := blk_cell HI1.out 0 _ rfl
 have i1 := blk_cell HI1.out 1 _ rfl
 have i2 := blk_cell HI1.out 2 _ rfl
 have i3 := blk_cell HI1.out 3 _ rfl
 have HLD := Lib.hid (load_st HS1'.out)
 go_wp2_with (first
  | ((with_reducible refine wpList_load_if (op := ⟨some 24, _, _, _, _, _⟩) ?_ 32 _ rfl _ _ ?_ HLD.out ?_); (· rfl); (· rfl)))
 refine (KSET.out _ HB1.out).mono ?_
 rintro e w2 ⟨rfl, hb2⟩
 have HS2 := Lib.hid (blk_keep hb2 HS1'.out)
 have HR2 := Lib.hid (blk_keep hb2 HR1.out)
 have HL2 := Lib.hid (blk_keep hb2 HL1.out)
 have HI2 := Lib.hid (blk_keep hb2 HI1.out)
 have HC2 := Lib.hid (blk_keep hb2 HC1.out)
 have HB2 := Lib.hid (below_on HB1.out hb2)
 clear hb2 m0 m1 l0 l1 l2 l3 i0 i1 i2 i3 HLD HS1' HR1 HL1 HI1 HC1 HB1 HBW1
 cases bs with
 | false =>
   have m0 := blk_cell HC2.out 0 _ rfl
   go_upto_region 17 with fail
   refine wp_region_calm (by kernel_rfl) ?_ ?_
   ·kernel_rfl
   repeat first
    | go_big_quiet_skip
    | (go_big_quiet_want
       (first
         | ((with_reducible refine quiet_load_is (o := ⟨some 124, _, _, _, _, _⟩) 5 _ rfl (.pointer (some ⟨gc, 0, none⟩)) (.int .u8 (kd : Int)) ?_ ?_ ?_); (· rfl); (· intro w' hw'; have l := blk_cell (blk_keep hw' HC2.out) 0 _ rfl; go_simp)))
       simp only [Act.put, List.setIfInBounds_toArray, List.set_cons_zero, List.set_cons_succ]
       go_big_quiet_on)
    | (go_big_quiet_want; go_big_quiet_op; go_big_quiet_on)
    | (with_reducible apply wpQuiet_step
       intro K hK
       go_simp
       first
        | (refine hK _ ?_; clear hK K)
        | (apply Exists.intro
           refine ⟨fun w' hw' => ?_, hK _ ?_⟩
           ·
            (first
             | (skip
                go_simp
                first | done | with_reducible exact rfl | with_reducible exact ⟨rfl, rfl⟩))
           clear hK K))
   refine wpQuiet_nil ?_
   intro w7 hw7
   have HB7 := Lib.hid (below_on HB2.out hw7)
   have HSx := Lib.hid (blk_keep hw7 HS2.out)
   have HRx := Lib.hid (blk_keep hw7 HR2.out)
   have HBx := Lib.hid (below_on HB2.out hw7)
   clear hw7
   go_upto_region 19 with fail
   have HLD := Lib.hid (load_st HSx.out)
   obtain ⟨hst, hq9, ho9⟩ := store_st (s' := s) HRx.out
   have HST := Lib.hid hst
   have HQ9 := Lib.hid hq9
   have HB9 : Hid (Below w.heap.size w (w7.setCells gr 0 (stL s))) := Lib.hid (Only.below HBx.out HGR.out HBx.out.size ho9)
   clear hst hq9 ho9
   go_wp2_with (first
    | ((with_reducible refine wpList_load_is (op := ⟨some 152, _, _, _, _, _⟩) rfl 32 _ rfl _ _ ?_ HLD.out ?_); (· rfl))
    | ((with_reducible refine wpList_store_is (op := ⟨none, .store 32 _ _, _, _, _, _⟩) rfl 32 _ _ rfl _ _ ?_ ?_ _ HST.out ?_); (· rfl); (· rfl)))
   (try simp only [Exit.inBlock, Exit.then])
   refine bodyPost_ret (results_cell_row (g := gr) rfl _ _ 32 (stL s).toArray (0, 0) _ rfl HQ9.out Try.underlying32 rfl (by rw [List.size_toArray, st_len]; exact info_st)) rfl ?_
   exact ⟨by rw [HEQ.out]; rfl, HB9.out⟩
 | true =>
   go_upto_region 4 with fail
   refine wp_region_rel (by kernel_rfl) [7] 10 [0, 1, 2, 3, 4, 5, 6] [30, 31, 32, 33, 34, 35, 36] #[true, true, true, true, true, true, true, false] 1 [(fun v _ => v = .pointer (some ⟨gs, 0, none⟩)), (fun v _ => v = .int .u64 (s.lk : Int)), (fun v _ => v = .pointer (some ⟨gc, 1, none⟩)), (fun v _ => v = .int .i64 (n : Int)), (fun v _ => v = .int .u64 (pw n : Int)), (fun v _ => v = .int .u64 ((withBit s.lk n : Nat) : Int)), (fun v _ => v = .pointer (some ⟨gs, 0, none⟩)), (fun _ _ => True)] (by kernel_rfl) (by kernel_rfl) (by kernel_rfl) (by kernel_rfl) (by kernel_rfl) rfl (by kernel_rfl) rfl ?_ ?_ ?_
   ·exact ⟨stays_is _, stays_is _, stays_is _, stays_is _, stays_is _, stays_is _, stays_is _, stays_true, trivial⟩
   ·refine ⟨?_, ?_, ?_, ?_, ?_, ?_, ?_, trivial⟩
    ·refine relOb_mk (o := ⟨some 30, _, _, _, _, _⟩) rfl (fun r V hc hf hg hs hb hd => ?_)
     have x5 : r (.tmp 5) = .pointer (some ⟨gs, 0, none⟩) := hs 5 (by kernel_rfl)
     clear hs hd hg
     go_simp
     exact ⟨Below.refl _ _, rfl⟩
    ·refine relOb_mk (o := ⟨some 31, _, _, _, _, _⟩) rfl (fun r V hc hf hg hs hb hd => ?_)
     have h0 : r (.tmp 30) = .pointer (some ⟨gs, 0, none⟩) := hd 0 30 rfl (by kernel_rfl)
     clear hs hd hg
     have l := blk_cell (blk_keep hb HS2.out) 0 _ (st_0 _)
     go_simp
     exact ⟨Below.refl _ _, rfl⟩
    ·refine relOb_mk (o := ⟨some 32, _, _, _, _, _⟩) rfl (fun r V hc hf hg hs hb hd => ?_)
     have x7 : r (.tmp 7) = .pointer (some ⟨gc, 0, none⟩) := hs 7 (by kernel_rfl)
     clear hs hd hg
     go_simp
     exact ⟨Below.refl _ _, rfl⟩
    ·refine relOb_mk (o := ⟨some 33, _, _, _, _, _⟩) rfl (fun r V hc hf hg hs hb hd => ?_)
     have h2 : r (.tmp 32) = .pointer (some ⟨gc, 1, none⟩) := hd 2 32 rfl (by kernel_rfl)
     clear hs hd hg
     have l := blk_cell (blk_keep hb HC2.out) 1 _ rfl
     go_simp
     exact ⟨Below.refl _ _, rfl⟩
    ·refine relOb_mk (o := ⟨some 34, _, _, _, _, _⟩) rfl (fun r V hc hf hg hs hb hd => ?_)
     have h3 : r (.tmp 33) = .int .i64 (n : Int) := hd 3 33 rfl (by kernel_rfl)
     clear hs hd hg
     have h63 := HN63.out
     have h0 : (0 : Int) ≤ n := by omega
     have h1 : min n 64 = n := by omega
     have h2 : ¬ (64 : Int) ≤ n := by omega
     have hs1 := one_form n h63
     go_simp
     exact ⟨Below.refl _ _, by simp⟩
    ·refine relOb_mk (o := ⟨some 35, _, _, _, _, _⟩) rfl (fun r V hc hf hg hs hb hd => ?_)
     have h1 : r (.tmp 31) = .int .u64 (s.lk : Int) := hd 1 31 rfl (by kernel_rfl)
     have h4 : r (.tmp 34) = .int .u64 (pw n : Int) := hd 4 34 rfl (by kernel_rfl)
     clear hs hd hg
     have ho1 := or_form s.lk n HN63.out HSO.out.lk
     go_simp
     exact ⟨Below.refl _ _, rfl⟩
    ·refine relOb_mk (o := ⟨some 36, _, _, _, _, _⟩) rfl (fun r V hc hf hg hs hb hd => ?_)
     have x5 : r (.tmp 5) = .pointer (some ⟨gs, 0, none⟩) := hs 5 (by kernel_rfl)
     clear hs hd hg
     go_simp
     exact ⟨Below.refl _ _, rfl⟩
   ·intro a V hb hx
    have h0 : a.eval (.tmp 30) = .pointer (some ⟨gs, 0, none⟩) := hx 0 30 rfl rfl
    have h1 : a.eval (.tmp 31) = .int .u64 (s.lk : Int) := hx 1 31 rfl rfl
    have h2 : a.eval (.tmp 32) = .pointer (some ⟨gc, 1, none⟩) := hx 2 32 rfl rfl
    have h3 : a.eval (.tmp 33) = .int .i64 (n : Int) := hx 3 33 rfl rfl
    have h4 : a.eval (.tmp 34) = .int .u64 (pw n : Int) := hx 4 34 rfl rfl
    have h5 : a.eval (.tmp 35) = .int .u64 ((withBit s.lk n : Nat) : Int) := hx 5 35 rfl rfl
    have h6 : a.eval (.tmp 36) = .pointer (some ⟨gs, 0, none⟩) := hx 6 36 rfl rfl
    unfold fillAll
    simp only [List.foldl_cons, List.foldl_nil, h0, h1, h2, h3, h4, h5, h6, Act.put, List.setIfInBounds_toArray, List.set_cons_zero, List.set_cons_succ]
    clear h0 h1 h2 h3 h4 h5 h6 hx
    have HSV := Lib.hid (blk_keep hb HS2.out)
    have HRV := Lib.hid (blk_keep hb HR2.out)
    have HLV := Lib.hid (blk_keep hb HL2.out)
    have HIV := Lib.hid (blk_keep hb HI2.out)
    have HCV := Lib.hid (blk_keep hb HC2.out)
    have HBV := Lib.hid (below_on HB2.out hb)
    clear hb HB2 HS2 HR2 HL2 HI2 HC2
    refine wpAny_ready (rs := [7]) (by kernel_rfl) (by simp) (AllReady.cons (o := ⟨none, _, _, _, _, _⟩) rfl (fun K hK => ?_) AllReady.nil)
    have c0 := blk_cell HSV.out 0 _ (st_0 _)
    have f0 := blk_free HSV.out 0
    have hl := blk_lt HSV.out
    go_simp
    clear c0 f0 hl
    refine name_K ?_
    intro V3 hV3
    have ho : Only gs V V3 := by rw [hV3]; exact (Only.refl gs V).setCell rfl _
    have HSb : Hid (V3.heap[gs]? = some (.cells (stL { s with lk := withBit s.lk n }).toArray 32)) := Lib.hid (by rw [hV3]; exact (blk_set HSV.out 0 _).trans (congrArg (fun C => some (Obj.cells C 32)) (st_s0 _ _)))
    have HBb : Hid (Below w.heap.size w V3) := Lib.hid (Only.below HBV.out HG.out.1 HBV.out.size ho)
    have HRb := Lib.hid (Only.keep ho HG.out.2.1 HRV.out)
    have HLb := Lib.hid (Only.keep ho HG.out.2.2.1 HLV.out)
    have HIb := Lib.hid (Only.keep ho HG.out.2.2.2.1 HIV.out)
    have HCb := Lib.hid (Only.keep ho HG.out.2.2.2.2 HCV.out)
    clear hV3 ho HSV HBV HRV HLV HIV HCV
    refine hK _ _ ?_
    clear hK K
    refine wpAny_done (by kernel_rfl) ?_ _
    have l3 := blk_cell HLb.out 3 _ rfl
    have m1 := blk_cell HCb.out 1 _ rfl
    have z0 := cell_later HBb.out HZX.out.1
    have z1 := cell_later HBb.out HZX.out.2.1
    have z2 := cell_later HBb.out HZX.out.2.2.1
    have z3 := cell_later HBb.out HZX.out.2.2.2.1
    have z4 := cell_later HBb.out HZX.out.2.2.2.2.1
    have z5 := cell_later HBb.out HZX.out.2.2.2.2.2
    have d1 : (0 : Int) ≤ n := by omega
    have d2 : (n : Int) < n4 := by have h := (List.getElem?_eq_some_iff.1 HXR.out).1; have := HN4.out; omega
    go_wp2_with fail
    refine (KND.out gs _ HBb.out (blk_lt HSb.out)).mono ?_
    rintro e wn ⟨v, rfl, hrv, hb1⟩
    unfold RwV at hrv
    obtain ⟨ta, tn, tc, rfl, htn, hsx⟩ := hrv
    have HSX := Lib.hid hsx
    have HTN := Lib.hid htn
    have htm : tn ≤ 100000 := by rw [htn]; exact HNL.out
    have HTM := Lib.hid htm
    have HSn := Lib.hid (blk_keep hb1 HSb.out)
    have HRn := Lib.hid (blk_keep hb1 HRb.out)
    have HBn := Lib.hid (below_on HBb.out hb1)
    clear l3 m1 z0 z1 z2 z3 z4 z5 d1 d2 hsx htn htm hb1 HSb HRb HLb HIb HCb HBb
    go_upto_region 7 with fail
    go_loopg [10] tn (fun g v wq => ∃ k : Nat, k + g = tn ∧ v = .int .i64 (k : Int) ∧ wq.heap[gs]? = some (.cells (stL { s with lk := withBit s.lk n, pt := ptL (x.nd.take k) s.pt }).toArray 32) ∧ WX (fun b => b = gs) wn wq)
    case atStart => exact ⟨0, by omega, rfl, by rw [ptL_zero]; exact HSn.out, WX.refl _ _⟩
    case round =>
     obtain ⟨k, hk, rfl, hq, hw⟩ := hrel
     have HK := Lib.hid hk
     have HSq := Lib.hid hq
     have HWq := Lib.hid hw
     clear hk hq hw
     by_cases hlk : k < tn
     ·have d3 : (0 : Int) ≤ k := by omega
      have d4 : (k : Int) < tn := by omega
      have e2 := k_succ hlk (Nat.le_trans HTM.out (by decide))
      have HLK := Lib.hid hlk
      obtain ⟨⟨sj, B⟩, hs⟩ : ∃ s, x.nd[k]? = some s := ⟨_, List.getElem?_eq_getElem (by have := HTN.out; omega)⟩
      have hsb := HNB.out _ (List.mem_of_getElem? hs)
      dsimp only at hsb
      obtain ⟨j, rfl⟩ : ∃ j : Nat, sj = j := ⟨sj.toNat, by omega⟩
      have HJ31 : Hid (j ≤ 31) := Lib.hid (by omega)
      have HSK := Lib.hid hs
      obtain ⟨A, hA⟩ : ∃ x, ta = x := ⟨_, rfl⟩
      have HAA := Lib.hid hA
      have hsx := HSX.out
      rw [hA] at hsx ⊢
      have hrow := hsx.at_.row
      dsimp only at hrow
      rcases hrow with hnil | ⟨tb, toff, htb, _⟩
      ·rw [hnil] at hs; cases hs
      subst htb
      have HCELL : Hid (∀ N, WX (fun b => b = gs) wn N → N.cell? ⟨tb, toff + k * 2, none⟩ = some (.int .i64 (j : Int)) ∧ N.cell? ⟨tb, toff + k * 2 + 1, none⟩ = some (.bool B)) := Lib.hid (fun N hN => by
       have hr := (hsx.step hN).at_.row
       dsimp only at hr
       rcases hr with hnil | ⟨tb', toff', htb, ht0⟩
       ·rw [hnil] at hs; cases hs
       ·injection htb with htb
        injection htb with h1 h2
        subst h1
        subst h2
        have a0 := ht0 k _ hs 0 (.int .i64 (j : Int)) rfl
        have a1 := ht0 k _ hs 1 (.bool B) rfl
        rw [Nat.add_zero] at a0
        exact ⟨a0, a1⟩)
      obtain ⟨P, hP⟩ : ∃ P, ptL (x.nd.take k) s.pt = P := ⟨_, rfl⟩
      rw [hP] at HSq
      have HPE := Lib.hid hP
      have HPL : Hid (P < 4294967296) := Lib.hid (hP ▸ pt_lt _ (fun y hy => HNB.out y (List.mem_of_mem_take hy)) _ HSO.out.pt)
      clear hlk hs hsb hA hsx hP
      go_upto_region 9 with fail
      clear d3 d4
      refine wp_region_rel (by kernel_rfl) [10] 13 [0, 1, 2, 3, 4, 5, 6, 7, 8, 9] [50, 51, 52, 53, 54, 55, 56, 57, 58, 59] #[true, true, true, true, true, true, true, true, true, true, false] 1 [(fun v _ => v = .pointer (some ⟨gs, 67, none⟩)), (fun v _ => v = .int .u32 ((P : Nat) : Int)), (fun v _ => v = .slice (some ⟨tb, toff, none⟩) tn tc), (fun v _ => v = .int .i64 (k : Int)), (fun v _ => v = .pointer (some ⟨tb, toff + k * 2, none⟩)), (fun v _ => v = .pointer (some ⟨tb, toff + k * 2, none⟩)), (fun v _ => v = .int .i64 (j : Int)), (fun v _ => v = .int .u32 ((pw j : Nat) : Int)), (fun v _ => v = .int .u32 ((woBit P j : Nat) : Int)), (fun v _ => v = .pointer (some ⟨gs, 67, none⟩)), (fun _ _ => True)] (by kernel_rfl) (by kernel_rfl) (by kernel_rfl) (by kernel_rfl) (by kernel_rfl) rfl (by kernel_rfl) rfl ?_ ?_ ?_
      ·exact ⟨stays_is _, stays_is _, stays_is _, stays_is _, stays_is _, stays_is _, stays_is _, stays_is _, stays_is _, stays_is _, stays_true, trivial⟩
      ·refine ⟨?_, ?_, ?_, ?_, ?_, ?_, ?_, ?_, ?_, ?_, trivial⟩
       ·refine relOb_mk (o := ⟨some 50, _, _, _, _, _⟩) rfl (fun r V hc hf hg hs hb hd => ?_)
        have x5 : r (.tmp 5) = .pointer (some ⟨gs, 0, none⟩) := hs 5 (by kernel_rfl)
        clear hs hd hg
        go_simp
        exact ⟨Below.refl _ _, rfl⟩
       ·refine relOb_mk (o := ⟨some 51, _, _, _, _, _⟩) rfl (fun r V hc hf hg hs hb hd => ?_)
        have h0 : r (.tmp 50) = .pointer (some ⟨gs, 67, none⟩) := hd 0 50 rfl (by kernel_rfl)
        clear hs hd hg
        have l := blk_cell (blk_keep hb HSq.out) 67 _ (st_67 _)
        go_simp
        exact ⟨Below.refl _ _, rfl⟩
       ·refine relOb_mk (o := ⟨some 52, _, _, _, _, _⟩) rfl (fun r V hc hf hg hs hb hd => ?_)
        have x9 : r (.tmp 9) = .slice (some ⟨tb, toff, none⟩) tn tc := hs 9 (by kernel_rfl)
        clear hs hd hg
        go_simp
        exact ⟨Below.refl _ _, rfl⟩
       ·refine relOb_mk (o := ⟨some 53, _, _, _, _, _⟩) rfl (fun r V hc hf hg hs hb hd => ?_)
        have x10 : r (.tmp 10) = .int .i64 (k : Int) := hs 10 (by kernel_rfl)
        clear hs hd hg
        go_simp
        exact ⟨Below.refl _ _, rfl⟩
       ·refine relOb_mk (o := ⟨some 54, _, _, _, _, _⟩) rfl (fun r V hc hf hg hs hb hd => ?_)
        have h2 : r (.tmp 52) = .slice (some ⟨tb, toff, none⟩) tn tc := hd 2 52 rfl (by kernel_rfl)
        have h3 : r (.tmp 53) = .int .i64 (k : Int) := hd 3 53 rfl (by kernel_rfl)
        clear hs hd hg
        have d3 : (0 : Int) ≤ k := by omega
        have d4 : (k : Int) < tn := by have := HLK.out; omega
        go_simp
        exact ⟨Below.refl _ _, rfl⟩
       ·refine relOb_mk (o := ⟨some 55, _, _, _, _, _⟩) rfl (fun r V hc hf hg hs hb hd => ?_)
        have h4 : r (.tmp 54) = .pointer (some ⟨tb, toff + k * 2, none⟩) := hd 4 54 rfl (by kernel_rfl)
        clear hs hd hg
        go_simp
        exact ⟨Below.refl _ _, rfl⟩
       ·refine relOb_mk (o := ⟨some 56, _, _, _, _, _⟩) rfl (fun r V hc hf hg hs hb hd => ?_)
        have h5 : r (.tmp 55) = .pointer (some ⟨tb, toff + k * 2, none⟩) := hd 5 55 rfl (by kernel_rfl)
        clear hs hd hg
        have l := (HCELL.out _ (HWq.out.trans (WX.of_below hb))).1
        go_simp
        exact ⟨Below.refl _ _, rfl⟩
       ·refine relOb_mk (o := ⟨some 57, _, _, _, _, _⟩) rfl (fun r V hc hf hg hs hb hd => ?_)
        have h6 : r (.tmp 56) = .int .i64 (j : Int) := hd 6 56 rfl (by kernel_rfl)
        clear hs hd hg
        have h31 := HJ31.out
        have h0 : (0 : Int) ≤ j := by omega
        have h1 : min j 32 = j := by omega
        have h2 : ¬ (32 : Int) ≤ j := by omega
        have hs1 := shl32 h31
        go_simp
        exact ⟨Below.refl _ _, by simp⟩
       ·refine relOb_mk (o := ⟨some 58, _, _, _, _, _⟩) rfl (fun r V hc hf hg hs hb hd => ?_)
        have h1 : r (.tmp 51) = .int .u32 ((P : Nat) : Int) := hd 1 51 rfl (by kernel_rfl)
        have h7 : r (.tmp 57) = .int .u32 ((pw j : Nat) : Int) := hd 7 57 rfl (by kernel_rfl)
        clear hs hd hg
        have ho1 := wo_step32 HJ31.out HPL.out
        go_simp
        exact ⟨Below.refl _ _, rfl⟩
       ·refine relOb_mk (o := ⟨some 59, _, _, _, _, _⟩) rfl (fun r V hc hf hg hs hb hd => ?_)
        have x5 : r (.tmp 5) = .pointer (some ⟨gs, 0, none⟩) := hs 5 (by kernel_rfl)
        clear hs hd hg
        go_simp
        exact ⟨Below.refl _ _, rfl⟩
      ·intro a V hb hx
       have h0 : a.eval (.tmp 50) = .pointer (some ⟨gs, 67, none⟩) := hx 0 50 rfl rfl
       have h1 : a.eval (.tmp 51) = .int .u32 ((P : Nat) : Int) := hx 1 51 rfl rfl
       have h2 : a.eval (.tmp 52) = .slice (some ⟨tb, toff, none⟩) tn tc := hx 2 52 rfl rfl
       have h3 : a.eval (.tmp 53) = .int .i64 (k : Int) := hx 3 53 rfl rfl
       have h4 : a.eval (.tmp 54) = .pointer (some ⟨tb, toff + k * 2, none⟩) := hx 4 54 rfl rfl
       have h5 : a.eval (.tmp 55) = .pointer (some ⟨tb, toff + k * 2, none⟩) := hx 5 55 rfl rfl
       have h6 : a.eval (.tmp 56) = .int .i64 (j : Int) := hx 6 56 rfl rfl
       have h7 : a.eval (.tmp 57) = .int .u32 ((pw j : Nat) : Int) := hx 7 57 rfl rfl
       have h8 : a.eval (.tmp 58) = .int .u32 ((woBit P j : Nat) : Int) := hx 8 58 rfl rfl
       have h9 : a.eval (.tmp 59) = .pointer (some ⟨gs, 67, none⟩) := hx 9 59 rfl rfl
       unfold fillAll
       simp only [List.foldl_cons, List.foldl_nil, h0, h1, h2, h3, h4, h5, h6, h7, h8, h9, Act.put, List.setIfInBounds_toArray, List.set_cons_zero, List.set_cons_succ]
       clear h0 h1 h2 h3 h4 h5 h6 h7 h8 h9 hx
       have HSV := Lib.hid (blk_keep hb HSq.out)
       have HWV := Lib.hid (HWq.out.trans (WX.of_below hb))
       clear hb HSq HWq
       refine wpAny_ready (rs := [10]) (by kernel_rfl) (by simp) (AllReady.cons (o := ⟨none, _, _, _, _, _⟩) rfl (fun K hK => ?_) AllReady.nil)
       have c0 := blk_cell HSV.out 67 _ (st_67 _)
       have f0 := blk_free HSV.out 67
       have hl := blk_lt HSV.out
       go_simp
       clear c0 f0 hl
       refine name_K ?_
       intro V9 hV9
       have ho : Only gs V V9 := by rw [hV9]; exact (Only.refl gs V).setCell rfl _
       have HS9 : Hid (V9.heap[gs]? = some (.cells (stL { s with lk := withBit s.lk n, pt := woBit P j }).toArray 32)) := Lib.hid (by rw [hV9]; exact (blk_set HSV.out 67 _).trans (congrArg (fun C => some (Obj.cells C 32)) (st_spt _ _)))
       have HW9 := Lib.hid (HWV.out.trans (WX.of_only (X := fun b => b = gs) ho rfl))
       clear hV9 ho HSV HWV
       refine hK _ _ ?_
       clear hK K
       refine wpAny_done (by kernel_rfl) ?_ _
       have t1 := (HCELL.out _ HW9.out).2
       have d3 : (0 : Int) ≤ k := by omega
       have d4 : (k : Int) < tn := by have := HLK.out; omega
       cases B with
       | false =>
         go_wp2_with fail
         rw [← HAA.out]
         go_roundg (tn - (k + 1))
         case rel => exact ⟨k + 1, k_next HK.out HLK.out, by go_num, by rw [pt_take HSK.out, HPE.out, if_neg (by decide)]; exact HS9.out, HW9.out⟩
         case measure => exact k_less HK.out HLK.out
       | true =>
         go_upto_region 11 with fail
         clear t1 d3 d4
         refine wp_region_rel (by kernel_rfl) [10] 13 [0, 1, 2, 3, 4, 5, 6, 7, 8, 9] [65, 66, 67, 68, 69, 70, 71, 72, 73, 74] #[true, true, true, true, true, true, true, true, true, true, false] 1 [(fun v _ => v = .pointer (some ⟨gs, 67, none⟩)), (fun v _ => v = .int .u32 ((woBit P j : Nat) : Int)), (fun v _ => v = .slice (some ⟨tb, toff, none⟩) tn tc), (fun v _ => v = .int .i64 (k : Int)), (fun v _ => v = .pointer (some ⟨tb, toff + k * 2, none⟩)), (fun v _ => v = .pointer (some ⟨tb, toff + k * 2, none⟩)), (fun v _ => v = .int .i64 (j : Int)), (fun v _ => v = .int .u32 ((pw j : Nat) : Int)), (fun v _ => v = .int .u32 ((withBit P j : Nat) : Int)), (fun v _ => v = .pointer (some ⟨gs, 67, none⟩)), (fun _ _ => True)] (by kernel_rfl) (by kernel_rfl) (by kernel_rfl) (by kernel_rfl) (by kernel_rfl) rfl (by kernel_rfl) rfl ?_ ?_ ?_
         ·exact ⟨stays_is _, stays_is _, stays_is _, stays_is _, stays_is _, stays_is _, stays_is _, stays_is _, stays_is _, stays_is _, stays_true, trivial⟩
         ·refine ⟨?_, ?_, ?_, ?_, ?_, ?_, ?_, ?_, ?_, ?_, trivial⟩
          ·refine relOb_mk (o := ⟨some 65, _, _, _, _, _⟩) rfl (fun r V hc hf hg hs hb hd => ?_)
           have x5 : r (.tmp 5) = .pointer (some ⟨gs, 0, none⟩) := hs 5 (by kernel_rfl)
           clear hs hd hg
           go_simp
           exact ⟨Below.refl _ _, rfl⟩
          ·refine relOb_mk (o := ⟨some 66, _, _, _, _, _⟩) rfl (fun r V hc hf hg hs hb hd => ?_)
           have h0 : r (.tmp 65) = .pointer (some ⟨gs, 67, none⟩) := hd 0 65 rfl (by kernel_rfl)
           clear hs hd hg
           have l := blk_cell (blk_keep hb HS9.out) 67 _ (st_67 _)
           go_simp
           exact ⟨Below.refl _ _, rfl⟩
          ·refine relOb_mk (o := ⟨some 67, _, _, _, _, _⟩) rfl (fun r V hc hf hg hs hb hd => ?_)
           have x9 : r (.tmp 9) = .slice (some ⟨tb, toff, none⟩) tn tc := hs 9 (by kernel_rfl)
           clear hs hd hg
           go_simp
           exact ⟨Below.refl _ _, rfl⟩
          ·refine relOb_mk (o := ⟨some 68, _, _, _, _, _⟩) rfl (fun r V hc hf hg hs hb hd => ?_)
           have x10 : r (.tmp 10) = .int .i64 (k : Int) := hs 10 (by kernel_rfl)
           clear hs hd hg
           go_simp
           exact ⟨Below.refl _ _, rfl⟩
          ·refine relOb_mk (o := ⟨some 69, _, _, _, _, _⟩) rfl (fun r V hc hf hg hs hb hd => ?_)
           have h2 : r (.tmp 67) = .slice (some ⟨tb, toff, none⟩) tn tc := hd 2 67 rfl (by kernel_rfl)
           have h3 : r (.tmp 68) = .int .i64 (k : Int) := hd 3 68 rfl (by kernel_rfl)
           clear hs hd hg
           have d3 : (0 : Int) ≤ k := by omega
           have d4 : (k : Int) < tn := by have := HLK.out; omega
           go_simp
           exact ⟨Below.refl _ _, rfl⟩
          ·refine relOb_mk (o := ⟨some 70, _, _, _, _, _⟩) rfl (fun r V hc hf hg hs hb hd => ?_)
           have h4 : r (.tmp 69) = .pointer (some ⟨tb, toff + k * 2, none⟩) := hd 4 69 rfl (by kernel_rfl)
           clear hs hd hg
           go_simp
           exact ⟨Below.refl _ _, rfl⟩
          ·refine relOb_mk (o := ⟨some 71, _, _, _, _, _⟩) rfl (fun r V hc hf hg hs hb hd => ?_)
           have h5 : r (.tmp 70) = .pointer (some ⟨tb, toff + k * 2, none⟩) := hd 5 70 rfl (by kernel_rfl)
           clear hs hd hg
           have l := (HCELL.out _ (HW9.out.trans (WX.of_below hb))).1
           go_simp
           exact ⟨Below.refl _ _, rfl⟩
          ·refine relOb_mk (o := ⟨some 72, _, _, _, _, _⟩) rfl (fun r V hc hf hg hs hb hd => ?_)
           have h6 : r (.tmp 71) = .int .i64 (j : Int) := hd 6 71 rfl (by kernel_rfl)
           clear hs hd hg
           have h31 := HJ31.out
           have h0 : (0 : Int) ≤ j := by omega
           have h1 : min j 32 = j := by omega
           have h2 : ¬ (32 : Int) ≤ j := by omega
           have hs1 := shl32 h31
           go_simp
           exact ⟨Below.refl _ _, by simp⟩
          ·refine relOb_mk (o := ⟨some 73, _, _, _, _, _⟩) rfl (fun r V hc hf hg hs hb hd => ?_)
           have h1 : r (.tmp 66) = .int .u32 ((woBit P j : Nat) : Int) := hd 1 66 rfl (by kernel_rfl)
           have h7 : r (.tmp 72) = .int .u32 ((pw j : Nat) : Int) := hd 7 72 rfl (by kernel_rfl)
           clear hs hd hg
           have ho1 := (or_step32 HJ31.out (woBit_lt32 HPL.out)).trans (congrArg (fun m : Nat => (m : Int)) (with_wo HPL.out HJ31.out))
           go_simp
           exact ⟨Below.refl _ _, rfl⟩
          ·refine relOb_mk (o := ⟨some 74, _, _, _, _, _⟩) rfl (fun r V hc hf hg hs hb hd => ?_)
           have x5 : r (.tmp 5) = .pointer (some ⟨gs, 0, none⟩) := hs 5 (by kernel_rfl)
           clear hs hd hg
           go_simp
           exact ⟨Below.refl _ _, rfl⟩
         ·intro a V hb hx
          have h0 : a.eval (.tmp 65) = .pointer (some ⟨gs, 67, none⟩) := hx 0 65 rfl rfl
          have h1 : a.eval (.tmp 66) = .int .u32 ((woBit P j : Nat) : Int) := hx 1 66 rfl rfl
          have h2 : a.eval (.tmp 67) = .slice (some ⟨tb, toff, none⟩) tn tc := hx 2 67 rfl rfl
          have h3 : a.eval (.tmp 68) = .int .i64 (k : Int) := hx 3 68 rfl rfl
          have h4 : a.eval (.tmp 69) = .pointer (some ⟨tb, toff + k * 2, none⟩) := hx 4 69 rfl rfl
          have h5 : a.eval (.tmp 70) = .pointer (some ⟨tb, toff + k * 2, none⟩) := hx 5 70 rfl rfl
          have h6 : a.eval (.tmp 71) = .int .i64 (j : Int) := hx 6 71 rfl rfl
          have h7 : a.eval (.tmp 72) = .int .u32 ((pw j : Nat) : Int) := hx 7 72 rfl rfl
          have h8 : a.eval (.tmp 73) = .int .u32 ((withBit P j : Nat) : Int) := hx 8 73 rfl rfl
          have h9 : a.eval (.tmp 74) = .pointer (some ⟨gs, 67, none⟩) := hx 9 74 rfl rfl
          unfold fillAll
          simp only [List.foldl_cons, List.foldl_nil, h0, h1, h2, h3, h4, h5, h6, h7, h8, h9, Act.put, List.setIfInBounds_toArray, List.set_cons_zero, List.set_cons_succ]
          clear h0 h1 h2 h3 h4 h5 h6 h7 h8 h9 hx
          have HSV := Lib.hid (blk_keep hb HS9.out)
          have HWV := Lib.hid (HW9.out.trans (WX.of_below hb))
          clear hb HS9 HW9
          refine wpAny_ready (rs := [10]) (by kernel_rfl) (by simp) (AllReady.cons (o := ⟨none, _, _, _, _, _⟩) rfl (fun K hK => ?_) AllReady.nil)
          have c0 := blk_cell HSV.out 67 _ (st_67 _)
          have f0 := blk_free HSV.out 67
          have hl := blk_lt HSV.out
          go_simp
          clear c0 f0 hl
          refine name_K ?_
          intro V8 hV8
          have ho : Only gs V V8 := by rw [hV8]; exact (Only.refl gs V).setCell rfl _
          have HS8 : Hid (V8.heap[gs]? = some (.cells (stL { s with lk := withBit s.lk n, pt := withBit P j }).toArray 32)) := Lib.hid (by rw [hV8]; exact (blk_set HSV.out 67 _).trans (congrArg (fun C => some (Obj.cells C 32)) (st_spt _ _)))
          have HW8 := Lib.hid (HWV.out.trans (WX.of_only (X := fun b => b = gs) ho rfl))
          clear hV8 ho HSV HWV
          refine hK _ _ ?_
          clear hK K
          refine wpAny_done (by kernel_rfl) ?_ _
          go_wp2_with fail
          rw [← HAA.out]
          go_roundg (tn - (k + 1))
          case rel => exact ⟨k + 1, k_next HK.out HLK.out, by go_num, by rw [pt_take HSK.out, HPE.out, if_pos rfl]; exact HS8.out, HW8.out⟩
          case measure => exact k_less HK.out HLK.out
     ·have d4 : ¬ ((k : Int) < tn) := by omega
      have HSE : Hid (wr.heap[gs]? = some (.cells (stL { s with lk := withBit s.lk n, pt := ptL x.nd s.pt }).toArray 32)) := Lib.hid (by have h := HSq.out; rw [List.take_of_length_le (by have := HTN.out; omega)] at h; exact h)
      have HRE := Lib.hid (HWq.out.keep HG.out.2.1 HRn.out)
      have HBE : Hid (Below w.heap.size w wr) := Lib.hid (WX.below HBn.out HWq.out (fun b hb => by have hb : b = gs := hb; rw [hb]; exact HG.out.1))
      go_upto_region 19 with fail
      clear d4
      have HLD := Lib.hid (load_st HSE.out)
      obtain ⟨hst, hq9, ho9⟩ := store_st (s' := { s with lk := withBit s.lk n, pt := ptL x.nd s.pt }) HRE.out
      have HST := Lib.hid hst
      have HQ9 := Lib.hid hq9
      have HB9 : Hid (Below w.heap.size w (wr.setCells gr 0 (stL { s with lk := withBit s.lk n, pt := ptL x.nd s.pt }))) := Lib.hid (Only.below HBE.out HGR.out HBE.out.size ho9)
      clear hst hq9 ho9
      go_wp2_with (first
       | ((with_reducible refine wpList_load_is (op := ⟨some 152, _, _, _, _, _⟩) rfl 32 _ rfl _ _ ?_ HLD.out ?_); (· rfl))
       | ((with_reducible refine wpList_store_is (op := ⟨none, .store 32 _ _, _, _, _, _⟩) rfl 32 _ _ rfl _ _ ?_ ?_ _ HST.out ?_); (· rfl); (· rfl)))
      (try simp only [Exit.inBlock, Exit.then])
      refine bodyPost_ret (results_cell_row (g := gr) rfl _ _ 32 (stL { s with lk := withBit s.lk n, pt := ptL x.nd s.pt }).toArray (0, 0) _ rfl HQ9.out Try.underlying32 rfl (by rw [List.size_toArray, st_len]; exact info_st)) rfl ?_
      exact ⟨by rw [HEQ.out]; rfl, HB9.out⟩
end Go.Proofs.Ytjienmjpfklgeaa
