/-
 Layer 10: the document's Right.
-/
import Derived.Test.YtjienmjpfklgeaaIxTa
import Derived.Test.YtjienmjpfklgeaaIxTd
namespace Go.Proofs.Ytjienmjpfklgeaa
open Go.RowKit
set_option maxRecDepth 100000
/-- does another route k conflict with x, number i, and is it locked? -/
def cfE (L : Lay) (x : Rt) (s : St) (i k : Nat) : Bool := (i != k) && cfD L x s k
theorem cfe_any {L : Lay} {x : Rt} {s : St} {n : Nat} (hm : mayS L = true) (hx : L.rt.l[n]? = some x) : (List.range L.rt.l.length).any (cfE L x s n) = (cofL L (n : Int)).any (fun k => hasBit s.lk k.toNat) := by
 have h4 := (mayS_small hm).2.2.2
 rw [Bool.eq_iff_iff, List.any_eq_true, List.any_eq_true]
 constructor
 ·rintro ⟨k, hk, h⟩
  have hk := List.mem_range.1 hk
  have hy := List.getElem?_eq_getElem hk
  unfold cfE at h
  rw [cfd_at hy, Bool.and_eq_true, Bool.and_eq_true, bne_iff_ne] at h
  refine ⟨(k : Int), cof_mem.2 ⟨k, rfl, by omega, ?_⟩, by rw [Int.toNat_natCast]; exact h.2.1⟩
  rw [ps_at hm hx hy h.1]
  exact h.2.2
 ·rintro ⟨k, hk, h⟩
  obtain ⟨m, rfl, hm1, hp⟩ := cof_mem.1 hk
  rw [Int.toNat_natCast] at h
  have hlt : m < L.rt.l.length := by omega
  have hne : n ≠ m := fun e => by
   rw [ps_no (by omega)] at hp; cases hp
  have hy := List.getElem?_eq_getElem hlt
  rw [ps_at hm hx hy hne] at hp
  refine ⟨m, List.mem_range.2 hlt, ?_⟩
  unfold cfE
  rw [cfd_at hy, h, hp, bne_iff_ne.2 hne]; rfl
theorem cfe_same (L : Lay) (x : Rt) (s : St) (i : Nat) : cfE L x s i i = false := by unfold cfE; rw [bne_self_eq_false]; rfl
theorem cfe_at {L : Lay} {x y : Rt} {s : St} {i k : Nat} (hy : L.rt.l[k]? = some y) (h : i ≠ k) : cfE L x s i k = (hasBit s.lk k && conflictS L x y) := by unfold cfE; rw [bne_iff_ne.2 h, cfd_at hy]; rfl
theorem rgt_is (L : Lay) (s : St) : rgtS (tbL L) s = (eqS (tidyS L.rt.l.length L.po.l.length s) s && rightK (tbL L) s L.rt.l.length) := by unfold rgtS; rw [tbl_len, tbl_li]
attribute [local irreducible] Sl.v hasBit pw withBit woBit cyL stL stV tmL freeS ndBad maySet ptL setS mayCan canS canD nedS flipB mayMov movS comG relS rouS proS tidyS comsG rousS prosS nextG outS lnOk rightK rgtS eqS Mc.tb upd mayS checkS sideN
attribute [local irreducible] tbL rwL secOf cofL Rt.tr Rt.nd conflictS pairS formedS
attribute [local irreducible] mskS
attribute [local irreducible] cfD cfE

set_option maxHeartbeats 16000000 in
theorem drightT_is (L : Lay) (s : St) (w : World) (hL : LayAt w L) (hc : (checkS L).1 = 0) (hs : s.ok) :
 Calls Try.prog 20 #[.agg #[L.se.v, L.po.v, L.sg.v, L.rt.v], .agg (stL s).toArray] w fun e w' => e = .returned (.bool (rgtS (tbL L) s)) ∧ Below w.heap.size w w' := by
 have HMAY : Hid (mayS L = true) := Lib.hid (cs_zero hc)
 have HS4 : Hid (L.rt.l.length ≤ 64) := Lib.hid (mayS_small (cs_zero hc)).2.2.2
 have HCK := Lib.hid hc
 obtain ⟨TS, hTS⟩ : ∃ t, tidyS L.rt.l.length L.po.l.length s = t := ⟨_, rfl⟩
 obtain ⟨D0, hD0⟩ : ∃ b, eqS TS s = b := ⟨_, rfl⟩
 have HRES : Hid (rgtS (tbL L) s = (D0 && rightK (tbL L) s L.rt.l.length)) := Lib.hid (by rw [rgt_is, hTS, hD0])
 have xn : ∀ w : World, (binOp .neq 32 (.agg (stL TS).toArray) (.agg (stL s).toArray)).run Try.prog w = .ok (.bool (!D0)) w := fun w => by
  have h := neq_st TS s w
  rw [hD0] at h
  unfold stV at h
  exact h
 have KTD : Hid (∀ V, Below w.heap.size w V → Calls Try.prog 19 #[.agg #[L.se.v, L.po.v, L.sg.v, L.rt.v], .agg (stL s).toArray] V fun e w' => e = .returned (.agg (stL TS).toArray) ∧ Below V.heap.size V w') := Lib.hid (fun V hV => hTS ▸ dtidy_is L s V (hL.below hV) hc hs)
 have KCF : Hid (∀ x ∈ L.rt.l, ∀ y ∈ L.rt.l, ∀ V, Below w.heap.size w V → Calls Try.prog 44 #[.agg #[L.se.v, L.po.v, L.sg.v, L.rt.v], .agg #[.string x.nm, .int .i64 x.sg, x.pa.v, x.po.v, x.ov.v, x.fl.v], .agg #[.string y.nm, .int .i64 y.sg, y.pa.v, y.po.v, y.ov.v, y.fl.v]] V fun e w' => e = .returned (.bool (conflictS L x y)) ∧ Below V.heap.size V w') := Lib.hid (fun x hx y hy V hV => (rconflict_may L x y V (cs_zero hc) (hL.below hV) hx hy).mono (fun _ _ h => ⟨h.1, h.2⟩))
 have HSO := Lib.hid hs
 obtain ⟨n1, hn1⟩ : ∃ n, L.se.l.length = n := ⟨_, rfl⟩
 obtain ⟨n2, hn2⟩ : ∃ n, L.po.l.length = n := ⟨_, rfl⟩
 obtain ⟨n3, hn3⟩ : ∃ n, L.sg.l.length = n := ⟨_, rfl⟩
 obtain ⟨n4, hn4⟩ : ∃ n, L.rt.l.length = n := ⟨_, rfl⟩
 have HLW := Lib.hid hL
 have HN1 := Lib.hid hn1
 have HN2 := Lib.hid hn2
 have HN3 := Lib.hid hn3
 have HN4 := Lib.hid hn4
 rw [hn4] at HS4 HRES
 rw [slv hn1, slv hn2, slv hn3, slv hn4] at KTD KCF ⊢
 clear hn1 hn2 hn3 hn4 hL hc hs hTS hD0
 go_enter Try.func20, Try.ntmps20
 go_upto_region 1 with fail
 refine name_last (os := [.cells #[.slice L.se.a n1 L.se.c, .slice L.po.a n2 L.po.c, .slice L.sg.a n3 L.sg.c, .slice L.rt.a n4 L.rt.c] 27, .cells (stL s).toArray 32]) (w0 := w) rfl ?_
 intro W hat hbw
 obtain ⟨gl, hgl⟩ : ∃ g, g = w.heap.size := ⟨_, rfl⟩
 have q0 := hat 0 _ rfl
 obtain ⟨gs, hgs⟩ : ∃ g, g = gl + 1 := ⟨_, rfl⟩
 have q1 := hat 1 _ rfl
 rw [Nat.add_zero, ← hgl] at q0
 rw [← hgl, ← hgs] at q1
 rw [← hgl, ← hgs]
 have HQl := Lib.hid q0
 have HQs := Lib.hid q1
 have HB0 := Lib.hid hbw
 clear hat hbw q0 q1 hgl hgs
 have KTDW : Hid (∀ w', Below W.heap.size W w' → Calls Try.prog 19 #[.agg #[.slice L.se.a n1 L.se.c, .slice L.po.a n2 L.po.c, .slice L.sg.a n3 L.sg.c, .slice L.rt.a n4 L.rt.c], .agg (stL s).toArray] w' fun e w'' => e = .returned (.agg (stL TS).toArray) ∧ Below W.heap.size W w'') := Lib.hid (fun w' hw' => (KTD.out w' (below_on HB0.out hw')).mono (fun _ _ h => ⟨h.1, below_on hw' h.2⟩))
 refine wp_region_calm (by kernel_rfl) ?_ ?_
 ·kernel_rfl
 repeat first
  | go_big_quiet_skip
  | (go_big_quiet_want
     with_reducible refine quiet_load_is (o := ⟨some 10, _, _, _, _, _⟩) 32 _ rfl _ _ ?_ (fun w' hw' => load_st (blk_keep hw' HQs.out)) ?_
     ·rfl
     simp only [Act.put, List.setIfInBounds_toArray, List.set_cons_zero, List.set_cons_succ]
     go_big_quiet_on)
  | (go_big_quiet_want
     with_reducible refine quiet_load_is (o := ⟨some 12, _, _, _, _, _⟩) 32 _ rfl _ _ ?_ (fun w' hw' => load_st (blk_keep hw' HQs.out)) ?_
     ·rfl
     simp only [Act.put, List.setIfInBounds_toArray, List.set_cons_zero, List.set_cons_succ]
     go_big_quiet_on)
  | (go_big_quiet_want; go_big_quiet_op; go_big_quiet_on)
  | (with_reducible apply wpQuiet_step
     intro K hK
     go_simp
     first
      | (refine hK _ ?_; clear hK K)
      | (apply Exists.intro
         refine ⟨fun w' hw' => ?_, hK _ ?_⟩
         ·
          (first
           | with_reducible exact KTDW.out _ hw'
           | (have g0 := blk_cell (blk_keep hw' HQl.out) 0 _ rfl
              have g1 := blk_cell (blk_keep hw' HQl.out) 1 _ rfl
              have g2 := blk_cell (blk_keep hw' HQl.out) 2 _ rfl
              have g3 := blk_cell (blk_keep hw' HQl.out) 3 _ rfl
              go_simp
              first | done | with_reducible exact rfl | with_reducible exact ⟨rfl, rfl⟩ | with_reducible exact KTDW.out _ hw'))
         clear hK K))
 refine wpQuiet_nil ?_
 intro w7 hw7
 have HB7 := Lib.hid (below_on HB0.out hw7)
 have HBW7 := Lib.hid hw7
 clear hw7
 clear KTD KTDW xn
 cases D0 with
 | false =>
   go_wp2_with fail
   go_ret
   exact ⟨by rw [HRES.out]; rfl, HB7.out⟩
 | true =>
   have HB70 := HB7
   have HL7 := Lib.hid (blk_keep HBW7.out HQl.out)
   have HS7 := Lib.hid (blk_keep HBW7.out HQs.out)
   clear HBW7
   go_upto_region 4 with fail
   go_loopg [5] n4 (fun g v wr => ∃ i : Nat, i + g = n4 ∧ v = .int .i64 (i : Int) ∧ rightK (tbL L) s i = true ∧ Below w7.heap.size w7 wr)
   case atStart => exact ⟨0, by omega, rfl, right_zero _ _, Below.refl _ _⟩
   case round =>
    obtain ⟨i, hi, rfl, ho, hbw⟩ := hrel
    have HI := Lib.hid hi
    have HF := Lib.hid ho
    have HB := Lib.hid hbw
    have HLI := Lib.hid (blk_keep hbw HL7.out)
    have HSI := Lib.hid (blk_keep hbw HS7.out)
    have l3 := blk_cell HLI.out 3 _ rfl
    clear hi ho hbw
    by_cases hlt : i < n4
    ·have d1 : (0 : Int) ≤ i := by omega
     have d2 : (i : Int) < n4 := by omega
     have e1 := k_succ hlt (Nat.le_trans HS4.out (by decide))
     have HLT := Lib.hid hlt
     have HBI := Lib.hid (below_on HB70.out HB.out)
     have hli := HLI.out
     rcases HLW.out.rt.row with hnil | ⟨xb, off, hxb, hc0⟩
     ·have := HN4.out; rw [hnil] at this; simp at this; omega
     have hc := fun i c hi j v hv => cell_later (HBI.out) (hc0 i c hi j v hv)
     obtain ⟨x, hyx⟩ : ∃ y, L.rt.l[i]? = some y := ⟨_, List.getElem?_eq_getElem (by rw [HN4.out]; exact hlt)⟩
     have z0 := hc i _ hyx 0 _ rfl
     have z1 := hc i _ hyx 1 _ rfl
     have z2 := hc i _ hyx 2 _ rfl
     have z3 := hc i _ hyx 3 _ rfl
     have z4 := hc i _ hyx 4 _ rfl
     have z5 := hc i _ hyx 5 _ rfl
     rw [Nat.add_zero] at z0
     obtain ⟨p1, hp1⟩ : ∃ n, x.pa.l.length = n := ⟨_, rfl⟩
     obtain ⟨p2, hp2⟩ : ∃ n, x.po.l.length = n := ⟨_, rfl⟩
     obtain ⟨p3, hp3⟩ : ∃ n, x.ov.l.length = n := ⟨_, rfl⟩
     obtain ⟨p4, hp4⟩ : ∃ n, x.fl.l.length = n := ⟨_, rfl⟩
     rw [slv hp1] at z2
     rw [slv hp2] at z3
     rw [slv hp3] at z4
     rw [slv hp4] at z5
     have HZX := Lib.hid (And.intro z0 (And.intro z1 (And.intro z2 (And.intro z3 (And.intro z4 z5)))))
     clear z0 z1 z2 z3 z4 z5
     obtain ⟨X, hX⟩ : ∃ x, L.rt.a = x := ⟨_, rfl⟩
     have HXX := Lib.hid hX
     rw [hX] at hxb l3 hli KCF ⊢
     subst hxb
     have hxm := List.mem_of_getElem? hyx
     have HYX := Lib.hid hyx
     have HLI := Lib.hid hli
     have HROW := Lib.hid hc0
     have KND : Hid (∀ V, Below wr.heap.size wr V → Calls Try.prog 45 #[.agg #[.string x.nm, .int .i64 x.sg, x.pa.v, x.po.v, x.ov.v, x.fl.v]] V fun e w' => ∃ a n c, e = .returned (.slice a n c) ∧ n = x.nd.length ∧ SlAt 2 ndC w' ⟨a, c, x.nd⟩ ∧ Below V.heap.size V w') := Lib.hid (fun V hV => by
      have ok := mayS_rt HMAY.out x hxm
      have h := rneeds_is x V ((HLW.out.rn x hxm).below (below_on (HBI.out) hV)) (by have := ok.po; have := ok.fl; omega)
      unfold Rt.nd
      rw [List.length_append]
      exact h)
     have HNL : Hid (x.nd.length ≤ 100000) := Lib.hid (by have ok := mayS_rt HMAY.out x hxm; have := ok.po; have := ok.fl; unfold Rt.nd; rw [List.length_append]; omega)
     have HNB : Hid (∀ n ∈ x.nd, 0 ≤ n.1 ∧ n.1 ≤ 31) := Lib.hid (fun n hn => by have h := t_nd HMAY.out x hxm n hn; have := (mayS_small HMAY.out).2.1; omega)
     rw [slv hp1, slv hp2, slv hp3, slv hp4] at KND
     obtain ⟨bl, hbl⟩ : ∃ b, hasBit s.lk i = b := ⟨_, rfl⟩
     obtain ⟨bc, hbc⟩ : ∃ b, (cofL L (i : Int)).any (fun k => hasBit s.lk k.toNat) = b := ⟨_, rfl⟩
     obtain ⟨bd, hbd⟩ : ∃ b, x.nd.any (fun m => hasBit s.pt m.1.toNat != m.2) = b := ⟨_, rfl⟩
     have HNX : Hid (rightK (tbL L) s (i + 1) = (!bl || (!bc && !bd))) := Lib.hid (by rw [right_succ (tbl_at hyx), HF.out, ln_is, rwl_cf, rwl_nd, hbl, hbc, hbd]; rfl)
     have HZD := Lib.hid hbd
     have HCE : Hid ((List.range n4).any (cfE L x s i) = bc) := Lib.hid (by rw [← HN4.out]; exact (cfe_any HMAY.out hyx).trans hbc)
     have KHS : Hid (∀ V, Calls Try.prog 22 #[.int .u64 (s.lk : Int), .int .i64 (i : Int)] V fun e w' => e = .returned (.bool bl) ∧ Below V.heap.size V w') := Lib.hid (fun V => dhas_is bl s.lk i V (by have := HLT.out; have := HS4.out; omega) HSO.out.lk hbl)
     have KC1 := Lib.hid (KCF.out x hxm)
     rw [slv hp1, slv hp2, slv hp3, slv hp4] at KC1
     clear hc hc0 hyx hxm hp1 hp2 hp3 hp4 hX hlt hbl hbc hbd hli
     have HII : Hid ((i : Int) < n4) := Lib.hid d2
     cases bl with
     | false =>
       go_upto_region 7 with fail
       go_loopg [6] n4 (fun g v wq => ∃ k : Nat, k + g = n4 ∧ v = .int .i64 (k : Int) ∧ k = 0 ∧ Below wr.heap.size wr wq)
       case atStart => exact ⟨0, by omega, rfl, rfl, Below.refl _ _⟩
       case round =>
        obtain ⟨k, hk, rfl, ho, hbw⟩ := hrel
        have HK := Lib.hid hk
        have HF2 := Lib.hid ho
        have HBQ0 := Lib.hid hbw
        have HLR0 := Lib.hid (blk_keep hbw HLI.out)
        have HSR0 := Lib.hid (blk_keep hbw HSI.out)
        have l3 := blk_cell HLR0.out 3 _ rfl
        have s0 := blk_cell HSR0.out 0 _ (st_0 s)
        have hk0 : k = 0 := ho
        have d3 : (0 : Int) ≤ k := by omega
        have d4 : (k : Int) < n4 := by have := HLT.out; omega
        clear hk ho hbw hk0
        go_wp2_with fail
        refine (KHS.out _).mono ?_
        rintro e w9 ⟨rfl, hb9⟩
        have HBX := Lib.hid (below_on HBQ0.out hb9)
        have HLX := Lib.hid (blk_keep hb9 HLR0.out)
        have HSX := Lib.hid (blk_keep hb9 HSR0.out)
        clear l3 s0 hb9 HLR0 HSR0 HBQ0 d3 d4
        have HBWX := Lib.hid (below_on HBI.out HBX.out)
        have l3 := blk_cell HLX.out 3 _ rfl
        have d1 : (0 : Int) ≤ i := by omega
        have d2 := HII.out
        have z0 := cell_later HBX.out HZX.out.1
        have z1 := cell_later HBX.out HZX.out.2.1
        have z2 := cell_later HBX.out HZX.out.2.2.1
        have z3 := cell_later HBX.out HZX.out.2.2.2.1
        have z4 := cell_later HBX.out HZX.out.2.2.2.2.1
        have z5 := cell_later HBX.out HZX.out.2.2.2.2.2
        go_wp2_with fail
        refine (KND.out _ HBX.out).mono ?_
        rintro e wn ⟨ta, tn, tc, rfl, htn, hT, hb1⟩
        have HT := Lib.hid hT.row
        have HTN := Lib.hid htn
        have htm : tn ≤ 100000 := by rw [htn]; exact HNL.out
        have HTM := Lib.hid htm
        have HBN := Lib.hid (below_on HBX.out hb1)
        have HSN := Lib.hid (blk_keep hb1 HSX.out)
        clear l3 d1 d2 z0 z1 z2 z3 z4 z5 htn hT hb1 htm
        go_upto_region 13 with fail
        go_loopg [8] tn (fun g v wq => ∃ k : Nat, k + g = tn ∧ v = .int .i64 (k : Int) ∧ True ∧ Below wn.heap.size wn wq)
        case atStart => exact ⟨0, by omega, rfl, trivial, Below.refl _ _⟩
        case round =>
         obtain ⟨k, hk, rfl, ho, hbw⟩ := hrel
         have HK := Lib.hid hk
         have HF3 := Lib.hid ho
         have HBQ := Lib.hid hbw
         have HSR := Lib.hid (blk_keep hbw HSN.out)
         clear hk ho hbw
         by_cases hlk : k < tn
         ·skip
          have d3 : (0 : Int) ≤ k := by omega
          have d4 : (k : Int) < tn := by omega
          have e2 := k_succ hlk (Nat.le_trans HTM.out (by decide))
          have HLK := Lib.hid hlk
          obtain ⟨⟨sj, B⟩, hs⟩ : ∃ s, x.nd[k]? = some s := ⟨_, List.getElem?_eq_getElem (by have := HTN.out; omega)⟩
          have hsb := HNB.out _ (List.mem_of_getElem? hs)
          dsimp only at hsb
          obtain ⟨j, rfl⟩ : ∃ j : Nat, sj = j := ⟨sj.toNat, by omega⟩
          have HJ31 : Hid (j ≤ 31) := Lib.hid (by omega)
          obtain ⟨A, hA⟩ : ∃ x, ta = x := ⟨_, rfl⟩
          have HAA := Lib.hid hA
          have hrow := HT.out
          rw [hA] at hrow ⊢
          rcases hrow with hnil | ⟨tb, toff, htb, ht0⟩
          ·have := HTN.out; rw [hnil] at this; simp at this; omega
          subst htb
          have t0 := cell_later HBQ.out (ht0 k _ hs 0 (.int .i64 (j : Int)) rfl)
          have t1 := cell_later HBQ.out (ht0 k _ hs 1 (.bool B) rfl)
          rw [Nat.add_zero] at t0
          have HSK := Lib.hid hs
          have HT0 := Lib.hid t0
          have HT1 := Lib.hid t1
          clear t0 t1 ht0 hs hsb hlk hA
          obtain ⟨D, hD⟩ : ∃ D, hasBit s.pt j = D := ⟨_, rfl⟩
          have HND : Hid ((fun m : Int × Bool => hasBit s.pt m.1.toNat != m.2) ((j : Int), B) = (D != B)) := Lib.hid (by show (hasBit s.pt ((j : Int).toNat) != B) = _; rw [Int.toNat_natCast, hD])
          have KHSW : Hid (∀ w', Below wr.heap.size wr w' → Calls Try.prog 22 #[.int .u64 (s.lk : Int), .int .i64 (i : Int)] w' fun e w'' => e = .returned (.bool false) ∧ Below wr.heap.size wr w'') := Lib.hid (fun w' hw' => (KHS.out w').mono (fun _ _ h => ⟨h.1, below_on hw' h.2⟩))
          clear hD
          go_upto_region 15 with fail
          refine wp_region_calm (by kernel_rfl) ?_ ?_
          ·kernel_rfl
          repeat first
           | go_big_quiet_skip
           | (go_big_quiet_want; go_big_quiet_op; go_big_quiet_on)
           | (with_reducible apply wpQuiet_step
              intro K hK
              go_simp
              first
               | (refine hK _ ?_; clear hK K)
               | (apply Exists.intro
                  refine ⟨fun w' hw' => ?_, hK _ ?_⟩
                  ·
                   (first
                    | with_reducible exact KHSW.out _ hw'
                    | (have s0 := blk_cell (blk_keep hw' HSR.out) 0 _ (st_0 s)
                       go_simp
                       first | done | with_reducible exact rfl | with_reducible exact ⟨rfl, rfl⟩ | with_reducible exact KHSW.out _ hw'))
                  clear hK K))
          refine wpQuiet_nil ?_
          intro w7 hw7
          have HB7 := Lib.hid (below_on HBQ.out hw7)
          clear hw7
          go_wp2_with fail
          rw [← HAA.out]
          go_roundg (tn - (k + 1))
          case rel => exact ⟨k + 1, k_next HK.out HLK.out, by go_num, trivial, HB7.out⟩
          case measure => exact k_less HK.out HLK.out
         ·have d4 : ¬ ((k : Int) < tn) := by omega
          have HN : Hid (rightK (tbL L) s (i + 1) = true) := Lib.hid (by
           rw [HNX.out]; rfl)
          go_wp2_with fail
          rw [← HXX.out]
          go_roundg (n4 - (i + 1))
          case rel => exact ⟨i + 1, k_next HI.out HLT.out, by go_num, HN.out, below_on HB.out (below_on HBN.out HBQ.out)⟩
          case measure => exact k_less HI.out HLT.out
     | true =>
       go_upto_region 7 with fail
       go_loopg [6] n4 (fun g v wq => ∃ k : Nat, k + g = n4 ∧ v = .int .i64 (k : Int) ∧ (List.range k).any (cfE L x s i) = false ∧ Below wr.heap.size wr wq)
       case atStart => exact ⟨0, by omega, rfl, rg_zero, Below.refl _ _⟩
       case round =>
        obtain ⟨k, hk, rfl, ho, hbw⟩ := hrel
        have HK := Lib.hid hk
        have HF2 := Lib.hid ho
        have HBQ0 := Lib.hid hbw
        have HLR0 := Lib.hid (blk_keep hbw HLI.out)
        have HSR0 := Lib.hid (blk_keep hbw HSI.out)
        have l3 := blk_cell HLR0.out 3 _ rfl
        have s0 := blk_cell HSR0.out 0 _ (st_0 s)
        clear hk ho hbw
        by_cases hlk : k < n4
        ·have d3 : (0 : Int) ≤ k := by omega
         have d4 : (k : Int) < n4 := by omega
         have e2 := k_succ hlk (Nat.le_trans HS4.out (by decide))
         have HLK := Lib.hid hlk
         clear hlk
         go_wp2_with fail
         refine (KHS.out _).mono ?_
         rintro e w9 ⟨rfl, hb9⟩
         have HBQ := Lib.hid (below_on HBQ0.out hb9)
         have HLR := Lib.hid (blk_keep hb9 HLR0.out)
         have HSR := Lib.hid (blk_keep hb9 HSR0.out)
         clear l3 s0 hb9 HLR0 HSR0 HBQ0
         have d1 : (0 : Int) ≤ i := by omega
         have d2 := HII.out
         by_cases e : i = k
         ·subst e
          have HE : Hid (cfE L x s i i = false) := Lib.hid (cfe_same L x s i)
          go_upto_region 9 with fail
          refine wp_region_calm (by kernel_rfl) ?_ ?_
          ·kernel_rfl
          repeat first
           | go_big_quiet_skip
           | (go_big_quiet_want; go_big_quiet_op; go_big_quiet_on)
           | (with_reducible apply wpQuiet_step
              intro K hK
              go_simp
              first
               | (refine hK _ ?_; clear hK K)
               | (apply Exists.intro
                  refine ⟨fun w' hw' => ?_, hK _ ?_⟩
                  ·
                   (first
                    | (have s0 := blk_cell (blk_keep hw' HSR.out) 0 _ (st_0 s)
                       go_simp
                       first | done | with_reducible exact rfl | with_reducible exact ⟨rfl, rfl⟩))
                  clear hK K))
          refine wpQuiet_nil ?_
          intro w7 hw7
          have HB7 := Lib.hid (below_on HBQ.out hw7)
          clear hw7
          go_wp2_with fail
          go_roundg (n4 - (i + 1))
          case rel => exact ⟨i + 1, k_next HK.out HLK.out, by go_num, rg_no HF2.out HE.out, HB7.out⟩
          case measure => exact k_less HK.out HLK.out
         ·have hc := fun i c hi j v hv => cell_later (below_on HBI.out HBQ.out) (HROW.out i c hi j v hv)
          obtain ⟨y, hyy⟩ : ∃ y, L.rt.l[k]? = some y := ⟨_, List.getElem?_eq_getElem (by rw [HN4.out]; exact HLK.out)⟩
          have z0 := hc k _ hyy 0 _ rfl
          have z1 := hc k _ hyy 1 _ rfl
          have z2 := hc k _ hyy 2 _ rfl
          have z3 := hc k _ hyy 3 _ rfl
          have z4 := hc k _ hyy 4 _ rfl
          have z5 := hc k _ hyy 5 _ rfl
          rw [Nat.add_zero] at z0
          obtain ⟨q1, hq1⟩ : ∃ n, y.pa.l.length = n := ⟨_, rfl⟩
          obtain ⟨q2, hq2⟩ : ∃ n, y.po.l.length = n := ⟨_, rfl⟩
          obtain ⟨q3, hq3⟩ : ∃ n, y.ov.l.length = n := ⟨_, rfl⟩
          obtain ⟨q4, hq4⟩ : ∃ n, y.fl.l.length = n := ⟨_, rfl⟩
          rw [slv hq1] at z2
          rw [slv hq2] at z3
          rw [slv hq3] at z4
          rw [slv hq4] at z5
          have HZY := Lib.hid (And.intro z0 (And.intro z1 (And.intro z2 (And.intro z3 (And.intro z4 z5)))))
          clear z0 z1 z2 z3 z4 z5
          have hym := List.mem_of_getElem? hyy
          have ne1 : ((i : Int) == (k : Int)) = false := by rw [beq_eq_false_iff_ne]; omega
          have ne2 : ((i : Int) != (k : Int)) = true := by rw [bne_iff_ne]; omega
          have ne3 : ¬ (i : Int) = (k : Int) := by omega
          obtain ⟨b1, hb1⟩ : ∃ b, hasBit s.lk k = b := ⟨_, rfl⟩
          obtain ⟨b2, hb2⟩ : ∃ b, conflictS L x y = b := ⟨_, rfl⟩
          have HCD : Hid (cfE L x s i k = (b1 && b2)) := Lib.hid (by rw [cfe_at hyy e, hb1, hb2])
          have KHK : Hid (∀ V, Calls Try.prog 22 #[.int .u64 (s.lk : Int), .int .i64 (k : Int)] V fun e w' => e = .returned (.bool b1) ∧ Below V.heap.size V w') := Lib.hid (fun V => dhas_is b1 s.lk k V (by have := HLK.out; have := HS4.out; omega) HSO.out.lk hb1)
          have KHKW : Hid (∀ w', Below w9.heap.size w9 w' → Calls Try.prog 22 #[.int .u64 (s.lk : Int), .int .i64 (k : Int)] w' fun e w'' => e = .returned (.bool b1) ∧ Below w9.heap.size w9 w'') := Lib.hid (fun w' hw' => (KHK.out w').mono (fun _ _ h => ⟨h.1, below_on hw' h.2⟩))
          have KC2 := Lib.hid (KC1.out y hym)
          rw [slv hq1, slv hq2, slv hq3, slv hq4, hb2] at KC2
          have KCFW : Hid (∀ w', Below w9.heap.size w9 w' → Calls Try.prog 44 #[.agg #[.slice L.se.a n1 L.se.c, .slice L.po.a n2 L.po.c, .slice L.sg.a n3 L.sg.c, .slice (some ⟨xb, off, none⟩) n4 L.rt.c], .agg #[.string x.nm, .int .i64 x.sg, .slice x.pa.a p1 x.pa.c, .slice x.po.a p2 x.po.c, .slice x.ov.a p3 x.ov.c, .slice x.fl.a p4 x.fl.c], .agg #[.string y.nm, .int .i64 y.sg, .slice y.pa.a q1 y.pa.c, .slice y.po.a q2 y.po.c, .slice y.ov.a q3 y.ov.c, .slice y.fl.a q4 y.fl.c]] w' fun e w'' => e = .returned (.bool b2) ∧ Below w9.heap.size w9 w'') := Lib.hid (fun w' hw' => (KC2.out w' (below_on HBI.out (below_on HBQ.out hw'))).mono (fun _ _ h => ⟨h.1, below_on hw' h.2⟩))
          clear e hc hyy hym hq1 hq2 hq3 hq4 hb1 hb2 KC2 KHK
          cases b1 with
          | false =>
            have HE : Hid (cfE L x s i k = false) := Lib.hid (HCD.out.trans rfl)
            go_upto_region 9 with fail
            refine wp_region_calm (by kernel_rfl) ?_ ?_
            ·kernel_rfl
            repeat first
             | go_big_quiet_skip
             | (go_big_quiet_want; go_big_quiet_op; go_big_quiet_on)
             | (with_reducible apply wpQuiet_step
                intro K hK
                go_simp
                first
                 | (refine hK _ ?_; clear hK K)
                 | (apply Exists.intro
                    refine ⟨fun w' hw' => ?_, hK _ ?_⟩
                    ·
                     (first
                      | with_reducible exact KHKW.out _ hw'
                      | (have s0 := blk_cell (blk_keep hw' HSR.out) 0 _ (st_0 s)
                         go_simp
                         first | done | with_reducible exact rfl | with_reducible exact ⟨rfl, rfl⟩ | with_reducible exact KHKW.out _ hw'))
                    clear hK K))
            refine wpQuiet_nil ?_
            intro w7 hw7
            have HB7 := Lib.hid (below_on HBQ.out hw7)
            clear hw7
            go_wp2_with fail
            go_roundg (n4 - (k + 1))
            case rel => exact ⟨k + 1, k_next HK.out HLK.out, by go_num, rg_no HF2.out HE.out, HB7.out⟩
            case measure => exact k_less HK.out HLK.out
          | true =>
            cases b2 with
            | false =>
              have HE : Hid (cfE L x s i k = false) := Lib.hid (HCD.out.trans rfl)
              go_upto_region 9 with fail
              refine wp_region_calm (by kernel_rfl) ?_ ?_
              ·kernel_rfl
              repeat first
               | go_big_quiet_skip
               | (go_big_quiet_want; go_big_quiet_op; go_big_quiet_on)
               | (with_reducible apply wpQuiet_step
                  intro K hK
                  go_simp
                  first
                   | (refine hK _ ?_; clear hK K)
                   | (apply Exists.intro
                      refine ⟨fun w' hw' => ?_, hK _ ?_⟩
                      ·
                       (first
                        | with_reducible exact KHKW.out _ hw'
                        | with_reducible exact KCFW.out _ hw'
                        | (have s0 := blk_cell (blk_keep hw' HSR.out) 0 _ (st_0 s)
                           go_simp
                           first | done | with_reducible exact rfl | with_reducible exact ⟨rfl, rfl⟩ | with_reducible exact KHKW.out _ hw' | with_reducible exact KCFW.out _ hw')
                        | (have g0 := blk_cell (blk_keep hw' HLR.out) 0 _ rfl
                           have g1 := blk_cell (blk_keep hw' HLR.out) 1 _ rfl
                           have g2 := blk_cell (blk_keep hw' HLR.out) 2 _ rfl
                           have g3 := blk_cell (blk_keep hw' HLR.out) 3 _ rfl
                           go_simp
                           first | done | with_reducible exact rfl | with_reducible exact ⟨rfl, rfl⟩ | with_reducible exact KHKW.out _ hw' | with_reducible exact KCFW.out _ hw')
                        | (have z0 := cell_later (below_on HBQ.out hw') HZX.out.1
                           have z1 := cell_later (below_on HBQ.out hw') HZX.out.2.1
                           have z2 := cell_later (below_on HBQ.out hw') HZX.out.2.2.1
                           have z3 := cell_later (below_on HBQ.out hw') HZX.out.2.2.2.1
                           have z4 := cell_later (below_on HBQ.out hw') HZX.out.2.2.2.2.1
                           have z5 := cell_later (below_on HBQ.out hw') HZX.out.2.2.2.2.2
                           go_simp
                           first | done | with_reducible exact rfl | with_reducible exact ⟨rfl, rfl⟩ | with_reducible exact KHKW.out _ hw' | with_reducible exact KCFW.out _ hw')
                        | (have z0 := cell_later hw' HZY.out.1
                           have z1 := cell_later hw' HZY.out.2.1
                           have z2 := cell_later hw' HZY.out.2.2.1
                           have z3 := cell_later hw' HZY.out.2.2.2.1
                           have z4 := cell_later hw' HZY.out.2.2.2.2.1
                           have z5 := cell_later hw' HZY.out.2.2.2.2.2
                           go_simp
                           first | done | with_reducible exact rfl | with_reducible exact ⟨rfl, rfl⟩ | with_reducible exact KHKW.out _ hw' | with_reducible exact KCFW.out _ hw'))
                      clear hK K))
              refine wpQuiet_nil ?_
              intro w7 hw7
              have HB7 := Lib.hid (below_on HBQ.out hw7)
              clear hw7
              go_wp2_with fail
              go_roundg (n4 - (k + 1))
              case rel => exact ⟨k + 1, k_next HK.out HLK.out, by go_num, rg_no HF2.out HE.out, HB7.out⟩
              case measure => exact k_less HK.out HLK.out
            | true =>
              have HTT : Hid (bc = true) := Lib.hid (HCE.out.symm.trans (rg_yes HLK.out (HCD.out.trans rfl)))
              have HNS : Hid (rightK (tbL L) s (i + 1) = false) := Lib.hid (by rw [HNX.out, HTT.out]; rfl)
              go_upto_region 9 with fail
              refine wp_region_calm (by kernel_rfl) ?_ ?_
              ·kernel_rfl
              repeat first
               | go_big_quiet_skip
               | (go_big_quiet_want; go_big_quiet_op; go_big_quiet_on)
               | (with_reducible apply wpQuiet_step
                  intro K hK
                  go_simp
                  first
                   | (refine hK _ ?_; clear hK K)
                   | (apply Exists.intro
                      refine ⟨fun w' hw' => ?_, hK _ ?_⟩
                      ·
                       (first
                        | with_reducible exact KHKW.out _ hw'
                        | with_reducible exact KCFW.out _ hw'
                        | (have s0 := blk_cell (blk_keep hw' HSR.out) 0 _ (st_0 s)
                           go_simp
                           first | done | with_reducible exact rfl | with_reducible exact ⟨rfl, rfl⟩ | with_reducible exact KHKW.out _ hw' | with_reducible exact KCFW.out _ hw')
                        | (have g0 := blk_cell (blk_keep hw' HLR.out) 0 _ rfl
                           have g1 := blk_cell (blk_keep hw' HLR.out) 1 _ rfl
                           have g2 := blk_cell (blk_keep hw' HLR.out) 2 _ rfl
                           have g3 := blk_cell (blk_keep hw' HLR.out) 3 _ rfl
                           go_simp
                           first | done | with_reducible exact rfl | with_reducible exact ⟨rfl, rfl⟩ | with_reducible exact KHKW.out _ hw' | with_reducible exact KCFW.out _ hw')
                        | (have z0 := cell_later (below_on HBQ.out hw') HZX.out.1
                           have z1 := cell_later (below_on HBQ.out hw') HZX.out.2.1
                           have z2 := cell_later (below_on HBQ.out hw') HZX.out.2.2.1
                           have z3 := cell_later (below_on HBQ.out hw') HZX.out.2.2.2.1
                           have z4 := cell_later (below_on HBQ.out hw') HZX.out.2.2.2.2.1
                           have z5 := cell_later (below_on HBQ.out hw') HZX.out.2.2.2.2.2
                           go_simp
                           first | done | with_reducible exact rfl | with_reducible exact ⟨rfl, rfl⟩ | with_reducible exact KHKW.out _ hw' | with_reducible exact KCFW.out _ hw')
                        | (have z0 := cell_later hw' HZY.out.1
                           have z1 := cell_later hw' HZY.out.2.1
                           have z2 := cell_later hw' HZY.out.2.2.1
                           have z3 := cell_later hw' HZY.out.2.2.2.1
                           have z4 := cell_later hw' HZY.out.2.2.2.2.1
                           have z5 := cell_later hw' HZY.out.2.2.2.2.2
                           go_simp
                           first | done | with_reducible exact rfl | with_reducible exact ⟨rfl, rfl⟩ | with_reducible exact KHKW.out _ hw' | with_reducible exact KCFW.out _ hw'))
                      clear hK K))
              refine wpQuiet_nil ?_
              intro w7 hw7
              have HB7 := Lib.hid (below_on HBQ.out hw7)
              clear hw7
              go_wp2_with fail
              go_ret
              exact ⟨by rw [HRES.out, right_less HNS.out n4 HLT.out]; rfl, below_on HB70.out (below_on HB.out HB7.out)⟩
        ·have d4 : ¬ ((k : Int) < n4) := by omega
         have HCOK : Hid (bc = false) := Lib.hid (by rw [← HCE.out, show n4 = k by have := HK.out; omega]; exact HF2.out)
         have HBX := HBQ0
         have HLX := HLR0
         have HSX := HSR0
         clear s0 hlk
         have HBWX := Lib.hid (below_on HBI.out HBX.out)
         have d1 : (0 : Int) ≤ i := by omega
         have d2 := HII.out
         have z0 := cell_later HBX.out HZX.out.1
         have z1 := cell_later HBX.out HZX.out.2.1
         have z2 := cell_later HBX.out HZX.out.2.2.1
         have z3 := cell_later HBX.out HZX.out.2.2.2.1
         have z4 := cell_later HBX.out HZX.out.2.2.2.2.1
         have z5 := cell_later HBX.out HZX.out.2.2.2.2.2
         go_wp2_with fail
         refine (KND.out _ HBX.out).mono ?_
         rintro e wn ⟨ta, tn, tc, rfl, htn, hT, hb1⟩
         have HT := Lib.hid hT.row
         have HTN := Lib.hid htn
         have htm : tn ≤ 100000 := by rw [htn]; exact HNL.out
         have HTM := Lib.hid htm
         have HBN := Lib.hid (below_on HBX.out hb1)
         have HSN := Lib.hid (blk_keep hb1 HSX.out)
         clear l3 d1 d2 z0 z1 z2 z3 z4 z5 htn hT hb1 htm
         go_upto_region 13 with fail
         go_loopg [8] tn (fun g v wq => ∃ k : Nat, k + g = tn ∧ v = .int .i64 (k : Int) ∧ (x.nd.take k).any (fun m => hasBit s.pt m.1.toNat != m.2) = false ∧ Below wn.heap.size wn wq)
         case atStart => exact ⟨0, by omega, rfl, tk_zero, Below.refl _ _⟩
         case round =>
          obtain ⟨k, hk, rfl, ho, hbw⟩ := hrel
          have HK := Lib.hid hk
          have HF3 := Lib.hid ho
          have HBQ := Lib.hid hbw
          have HSR := Lib.hid (blk_keep hbw HSN.out)
          clear hk ho hbw
          by_cases hlk : k < tn
          ·skip
           have d3 : (0 : Int) ≤ k := by omega
           have d4 : (k : Int) < tn := by omega
           have e2 := k_succ hlk (Nat.le_trans HTM.out (by decide))
           have HLK := Lib.hid hlk
           obtain ⟨⟨sj, B⟩, hs⟩ : ∃ s, x.nd[k]? = some s := ⟨_, List.getElem?_eq_getElem (by have := HTN.out; omega)⟩
           have hsb := HNB.out _ (List.mem_of_getElem? hs)
           dsimp only at hsb
           obtain ⟨j, rfl⟩ : ∃ j : Nat, sj = j := ⟨sj.toNat, by omega⟩
           have HJ31 : Hid (j ≤ 31) := Lib.hid (by omega)
           obtain ⟨A, hA⟩ : ∃ x, ta = x := ⟨_, rfl⟩
           have HAA := Lib.hid hA
           have hrow := HT.out
           rw [hA] at hrow ⊢
           rcases hrow with hnil | ⟨tb, toff, htb, ht0⟩
           ·have := HTN.out; rw [hnil] at this; simp at this; omega
           subst htb
           have t0 := cell_later HBQ.out (ht0 k _ hs 0 (.int .i64 (j : Int)) rfl)
           have t1 := cell_later HBQ.out (ht0 k _ hs 1 (.bool B) rfl)
           rw [Nat.add_zero] at t0
           have HSK := Lib.hid hs
           have HT0 := Lib.hid t0
           have HT1 := Lib.hid t1
           clear t0 t1 ht0 hs hsb hlk hA
           obtain ⟨D, hD⟩ : ∃ D, hasBit s.pt j = D := ⟨_, rfl⟩
           have HND : Hid ((fun m : Int × Bool => hasBit s.pt m.1.toNat != m.2) ((j : Int), B) = (D != B)) := Lib.hid (by show (hasBit s.pt ((j : Int).toNat) != B) = _; rw [Int.toNat_natCast, hD])
           have KHSW : Hid (∀ w', Below wr.heap.size wr w' → Calls Try.prog 22 #[.int .u64 (s.lk : Int), .int .i64 (i : Int)] w' fun e w'' => e = .returned (.bool true) ∧ Below wr.heap.size wr w'') := Lib.hid (fun w' hw' => (KHS.out w').mono (fun _ _ h => ⟨h.1, below_on hw' h.2⟩))
           have KRVW : Hid (∀ w', Below wr.heap.size wr w' → Calls Try.prog 46 #[.agg (stL s).toArray, .int .i64 (j : Int)] w' fun e w'' => e = .returned (.bool D) ∧ Below wr.heap.size wr w'') := Lib.hid (fun w' hw' => (drev_is D s j w' HJ31.out HSO.out hD).mono (fun _ _ h => ⟨h.1, below_on hw' h.2⟩))
           clear hD
           go_upto_region 15 with fail
           refine wp_region_calm (by kernel_rfl) ?_ ?_
           ·kernel_rfl
           repeat first
            | go_big_quiet_skip
            | (go_big_quiet_want
               with_reducible refine quiet_load_is (o := ⟨some 74, _, _, _, _, _⟩) 32 _ rfl _ _ ?_ (fun w' hw' => load_st (blk_keep hw' HSR.out)) ?_
               ·rfl
               simp only [Act.put, List.setIfInBounds_toArray, List.set_cons_zero, List.set_cons_succ]
               go_big_quiet_on)
            | (go_big_quiet_want; go_big_quiet_op; go_big_quiet_on)
            | (with_reducible apply wpQuiet_step
               intro K hK
               go_simp
               first
                | (refine hK _ ?_; clear hK K)
                | (apply Exists.intro
                   refine ⟨fun w' hw' => ?_, hK _ ?_⟩
                   ·
                    (first
                     | with_reducible exact KHSW.out _ hw'
                     | with_reducible exact KRVW.out _ hw'
                     | (have s0 := blk_cell (blk_keep hw' HSR.out) 0 _ (st_0 s)
                        go_simp
                        first | done | with_reducible exact rfl | with_reducible exact ⟨rfl, rfl⟩ | with_reducible exact KHSW.out _ hw' | with_reducible exact KRVW.out _ hw')
                     | (have t0 := cell_later hw' HT0.out
                        go_simp
                        first | done | with_reducible exact rfl | with_reducible exact ⟨rfl, rfl⟩ | with_reducible exact KHSW.out _ hw' | with_reducible exact KRVW.out _ hw')
                     | (have t1 := cell_later hw' HT1.out
                        go_simp
                        first | done | with_reducible exact rfl | with_reducible exact ⟨rfl, rfl⟩ | with_reducible exact KHSW.out _ hw' | with_reducible exact KRVW.out _ hw'))
                   clear hK K))
           refine wpQuiet_nil ?_
           intro w7 hw7
           have HB7 := Lib.hid (below_on HBQ.out hw7)
           clear hw7
           cases D with
           | false =>
             cases B with
             | false =>
               have HN : Hid ((x.nd.take (k + 1)).any (fun m => hasBit s.pt m.1.toNat != m.2) = false) := Lib.hid (tk_no HSK.out HF3.out (HND.out.trans rfl))
               go_wp2_with fail
               rw [← HAA.out]
               go_roundg (tn - (k + 1))
               case rel => exact ⟨k + 1, k_next HK.out HLK.out, by go_num, HN.out, HB7.out⟩
               case measure => exact k_less HK.out HLK.out
             | true =>
               have HTT : Hid (bd = true) := Lib.hid (HZD.out.symm.trans (tk_yes HSK.out (HND.out.trans rfl)))
               have HNS : Hid (rightK (tbL L) s (i + 1) = false) := Lib.hid (by rw [HNX.out, HTT.out]; cases bc <;> rfl)
               go_wp2_with fail
               go_ret
               exact ⟨by rw [HRES.out, right_less HNS.out n4 HLT.out]; rfl, below_on HB70.out (below_on HB.out (below_on HBN.out HB7.out))⟩
           | true =>
             cases B with
             | false =>
               have HTT : Hid (bd = true) := Lib.hid (HZD.out.symm.trans (tk_yes HSK.out (HND.out.trans rfl)))
               have HNS : Hid (rightK (tbL L) s (i + 1) = false) := Lib.hid (by rw [HNX.out, HTT.out]; cases bc <;> rfl)
               go_wp2_with fail
               go_ret
               exact ⟨by rw [HRES.out, right_less HNS.out n4 HLT.out]; rfl, below_on HB70.out (below_on HB.out (below_on HBN.out HB7.out))⟩
             | true =>
               have HN : Hid ((x.nd.take (k + 1)).any (fun m => hasBit s.pt m.1.toNat != m.2) = false) := Lib.hid (tk_no HSK.out HF3.out (HND.out.trans rfl))
               go_wp2_with fail
               rw [← HAA.out]
               go_roundg (tn - (k + 1))
               case rel => exact ⟨k + 1, k_next HK.out HLK.out, by go_num, HN.out, HB7.out⟩
               case measure => exact k_less HK.out HLK.out
          ·have d4 : ¬ ((k : Int) < tn) := by omega
           have HN : Hid (rightK (tbL L) s (i + 1) = true) := Lib.hid (by
            have h := HF3.out
            rw [List.take_of_length_le (by have := HTN.out; omega)] at h
            rw [HNX.out, HCOK.out, ← HZD.out, h]; rfl)
           go_wp2_with fail
           rw [← HXX.out]
           go_roundg (n4 - (i + 1))
           case rel => exact ⟨i + 1, k_next HI.out HLT.out, by go_num, HN.out, below_on HB.out (below_on HBN.out HBQ.out)⟩
           case measure => exact k_less HI.out HLT.out
    ·have d2 : ¬ ((i : Int) < n4) := by omega
     have HTT : Hid (rightK (tbL L) s n4 = true) := Lib.hid (by rw [show n4 = i by have := HI.out; omega]; exact HF.out)
     go_wp2_with fail
     go_ret
     exact ⟨by rw [HRES.out, HTT.out]; rfl, below_on HB70.out HB.out⟩
end Go.Proofs.Ytjienmjpfklgeaa
