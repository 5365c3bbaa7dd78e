/-
 Layer 10: the document's needed, route, proceed.
-/
import Derived.Test.YtjienmjpfklgeaaIxS
namespace Go.Proofs.Ytjienmjpfklgeaa
open Go.RowKit
set_option maxRecDepth 100000
theorem rwl_nd (L : Lay) (i : Nat) (x : Rt) : (rwL L i x).nd = x.nd := rfl
theorem rwl_tr (L : Lay) (i : Nat) (x : Rt) : (rwL L i x).tr = x.tr := rfl
theorem rwl_fi (L : Lay) (i : Nat) (x : Rt) : (rwL L i x).fi = x.pa.l.headD 0 := rfl
theorem free_rw (oc : Nat) (L : Lay) (i : Nat) (x : Rt) : freeS oc (rwL L i x) = !x.tr.any (fun k => hasBit oc k.toNat) := rfl
/-- locked, neither used nor cancelled, as a set -/
def mskS (s : St) : Nat := (s.lk &&& (18446744073709551615 - s.us)) &&& (18446744073709551615 - s.ca)
theorem msk_1 {s : St} (h : s.ok) : bits .andNot .u64 (s.lk : Int) (s.us : Int) = ((s.lk &&& (18446744073709551615 - s.us) : Nat) : Int) := u64_andNot_nat _ _ h.lk h.us
theorem msk_2 {s : St} (h : s.ok) : bits .andNot .u64 ((s.lk &&& (18446744073709551615 - s.us) : Nat) : Int) (s.ca : Int) = ((mskS s : Nat) : Int) := u64_andNot_nat _ _ (Nat.lt_of_le_of_lt Nat.and_le_left h.lk) h.ca
theorem msk_lt {s : St} (h : s.ok) : mskS s < 18446744073709551616 := Nat.lt_of_le_of_lt Nat.and_le_left (Nat.lt_of_le_of_lt Nat.and_le_left h.lk)
theorem not_bit {x i : Nat} (hx : x < 18446744073709551616) (hi : i < 64) : (18446744073709551615 - x).testBit i = !x.testBit i := by
 have h := Nat.testBit_two_pow_sub_succ (n := 64) (x := x) hx i
 rw [show (2 ^ 64 - (x + 1) : Nat) = 18446744073709551615 - x by omega] at h
 rw [h]; simp [hi]
theorem msk_bit {s : St} (h : s.ok) {n : Nat} (hn : n ≤ 63) : hasBit (mskS s) n = mayCan s n := by
 unfold mskS mayCan
 rw [hasBit_test, hasBit_test, hasBit_test, hasBit_test, Nat.testBit_and, Nat.testBit_and, not_bit h.us (by omega), not_bit h.ca (by omega), Bool.and_assoc]
attribute [local irreducible] Sl.v hasBit pw withBit woBit cyL stL stV tmL freeS ndBad maySet ptL setS mayCan canS canD nedS flipB mayMov movS comG relS rouS proS tidyS comsG rousS prosS nextG outS lnOk rightK rgtS eqS Mc.tb upd mayS checkS sideN
attribute [local irreducible] tbL rwL secOf cofL Rt.tr Rt.nd conflictS pairS formedS
attribute [local irreducible] mskS

set_option maxHeartbeats 8000000 in
theorem dneeded_is (b : Bool) (L : Lay) (s : St) (p : Nat) (w : World) (hL : LayAt w L) (hc : (checkS L).1 = 0) (hs : s.ok) (hb : nedS (tbL L) s p L.rt.l.length = b) :
 Calls Try.prog 61 #[.agg #[L.se.v, L.po.v, L.sg.v, L.rt.v], .agg (stL s).toArray, .int .i64 (p : Int)] w fun e w' => e = .returned (.bool b) ∧ Below w.heap.size w w' := by
 have HMAY : Hid (mayS L = true) := Lib.hid (cs_zero hc)
 have HS4 : Hid (L.rt.l.length ≤ 64) := Lib.hid (mayS_small (cs_zero hc)).2.2.2
 have HCK := Lib.hid hc
 obtain ⟨n1, hn1⟩ : ∃ n, L.se.l.length = n := ⟨_, rfl⟩
 obtain ⟨n2, hn2⟩ : ∃ n, L.po.l.length = n := ⟨_, rfl⟩
 obtain ⟨n3, hn3⟩ : ∃ n, L.sg.l.length = n := ⟨_, rfl⟩
 obtain ⟨n4, hn4⟩ : ∃ n, L.rt.l.length = n := ⟨_, rfl⟩
 have HLW := Lib.hid hL
 have HN1 := Lib.hid hn1
 have HN2 := Lib.hid hn2
 have HN3 := Lib.hid hn3
 have HN4 := Lib.hid hn4
 have HSO := Lib.hid hs
 have HZ := Lib.hid hb
 rw [hn4] at HS4 HZ
 rw [slv hn1, slv hn2, slv hn3, slv hn4]
 clear hn1 hn2 hn3 hn4 hL hc hs hb
 go_enter Try.func61, Try.ntmps61
 go_upto_region 1 with fail
 refine name_last (os := [.cells #[.slice L.se.a n1 L.se.c, .slice L.po.a n2 L.po.c, .slice L.sg.a n3 L.sg.c, .slice L.rt.a n4 L.rt.c] 27, .cells (stL s).toArray 32]) (w0 := w) rfl ?_
 intro W hat hbw
 obtain ⟨gl, hgl⟩ : ∃ g, g = w.heap.size := ⟨_, rfl⟩
 have q0 := hat 0 _ rfl
 obtain ⟨gs, hgs⟩ : ∃ g, g = gl + 1 := ⟨_, rfl⟩
 have q1 := hat 1 _ rfl
 rw [Nat.add_zero, ← hgl] at q0
 rw [← hgl, ← hgs] at q1
 rw [← hgl, ← hgs]
 have HQl := Lib.hid q0
 have HQs := Lib.hid q1
 have HB0 := Lib.hid hbw
 clear hat hbw q0 q1 hgl hgs
 go_upto_region 2 with fail
 go_loopg [7] n4 (fun g v wr => ∃ i : Nat, i + g = n4 ∧ v = .int .i64 (i : Int) ∧ nedS (tbL L) s p i = false ∧ Below W.heap.size W wr)
 case atStart => exact ⟨0, by omega, rfl, ned_zero _ _ _, Below.refl _ _⟩
 case round =>
  obtain ⟨i, hi, rfl, ho, hbw⟩ := hrel
  have HI := Lib.hid hi
  have HF := Lib.hid ho
  have HB := Lib.hid hbw
  have l3 := blk_cell (blk_keep hbw HQl.out) 3 _ rfl
  clear hi ho hbw
  by_cases hlt : i < n4
  ·have d1 : (0 : Int) ≤ i := by omega
   have d2 : (i : Int) < n4 := by omega
   have e1 := k_succ hlt (Nat.le_trans HS4.out (by decide))
   have HLT := Lib.hid hlt
   rcases HLW.out.rt.row with hnil | ⟨xb, off, hxb, hc0⟩
   ·have := HN4.out; rw [hnil] at this; simp at this; omega
   have hc := fun i c hi j v hv => cell_later (below_on HB0.out HB.out) (hc0 i c hi j v hv)
   obtain ⟨x, hyx⟩ : ∃ y, L.rt.l[i]? = some y := ⟨_, List.getElem?_eq_getElem (by rw [HN4.out]; exact hlt)⟩
   have z0 := hc i _ hyx 0 _ rfl
   have z1 := hc i _ hyx 1 _ rfl
   have z2 := hc i _ hyx 2 _ rfl
   have z3 := hc i _ hyx 3 _ rfl
   have z4 := hc i _ hyx 4 _ rfl
   have z5 := hc i _ hyx 5 _ rfl
   rw [Nat.add_zero] at z0
   obtain ⟨p1, hp1⟩ : ∃ n, x.pa.l.length = n := ⟨_, rfl⟩
   obtain ⟨p2, hp2⟩ : ∃ n, x.po.l.length = n := ⟨_, rfl⟩
   obtain ⟨p3, hp3⟩ : ∃ n, x.ov.l.length = n := ⟨_, rfl⟩
   obtain ⟨p4, hp4⟩ : ∃ n, x.fl.l.length = n := ⟨_, rfl⟩
   rw [slv hp1] at z2
   rw [slv hp2] at z3
   rw [slv hp3] at z4
   rw [slv hp4] at z5
   have HZX := Lib.hid (And.intro z0 (And.intro z1 (And.intro z2 (And.intro z3 (And.intro z4 z5)))))
   clear z0 z1 z2 z3 z4 z5
   obtain ⟨X, hX⟩ : ∃ x, L.rt.a = x := ⟨_, rfl⟩
   have HXX := Lib.hid hX
   rw [hX] at hxb l3 ⊢
   subst hxb
   have hxm := List.mem_of_getElem? hyx
   have HYX := Lib.hid hyx
   have KND : Hid (∀ V, Below wr.heap.size wr V → Calls Try.prog 45 #[.agg #[.string x.nm, .int .i64 x.sg, x.pa.v, x.po.v, x.ov.v, x.fl.v]] V fun e w' => ∃ a n c, e = .returned (.slice a n c) ∧ n = x.nd.length ∧ SlAt 2 ndC w' ⟨a, c, x.nd⟩ ∧ Below V.heap.size V w') := Lib.hid (fun V hV => by
    have ok := mayS_rt HMAY.out x hxm
    have h := rneeds_is x V ((HLW.out.rn x hxm).below (below_on (below_on HB0.out HB.out) hV)) (by have := ok.po; have := ok.fl; omega)
    unfold Rt.nd
    rw [List.length_append]
    exact h)
   have HNL : Hid (x.nd.length ≤ 100000) := Lib.hid (by have ok := mayS_rt HMAY.out x hxm; have := ok.po; have := ok.fl; unfold Rt.nd; rw [List.length_append]; omega)
   have HNB : Hid (∀ n ∈ x.nd, 0 ≤ n.1 ∧ n.1 ≤ 31) := Lib.hid (fun n hn => by have h := t_nd HMAY.out x hxm n hn; have := (mayS_small HMAY.out).2.1; omega)
   rw [slv hp1, slv hp2, slv hp3, slv hp4] at KND
   obtain ⟨z0, z1, z2, z3, z4, z5⟩ := HZX.out
   clear hc hc0 hyx hxm hp1 hp2 hp3 hp4 hX hlt
   obtain ⟨bl, hbl⟩ : ∃ b, hasBit s.lk i = b := ⟨_, rfl⟩
   have KHS : Hid (∀ V, Calls Try.prog 22 #[.int .u64 (s.lk : Int), .int .i64 (i : Int)] V fun e w' => e = .returned (.bool bl) ∧ Below V.heap.size V w') := Lib.hid (fun V => dhas_is bl s.lk i V (by have := HLT.out; have := HS4.out; omega) HSO.out.lk hbl)
   have HBL := Lib.hid hbl
   clear hbl
   go_wp2_with fail
   refine (KND.out _ (Below.refl _ _)).mono ?_
   rintro e wn ⟨ta, tn, tc, rfl, htn, hT, hb1⟩
   have HT := Lib.hid hT.row
   have HTN := Lib.hid htn
   have htm : tn ≤ 100000 := by rw [htn]; exact HNL.out
   have HTM := Lib.hid htm
   have HBN := Lib.hid (below_on HB.out hb1)
   clear z0 z1 z2 z3 z4 z5 l3 htn hT hb1 htm
   go_upto_region 6 with fail
   go_loopg [9] tn (fun g v wq => ∃ k : Nat, k + g = tn ∧ v = .int .i64 (k : Int) ∧ (bl && (x.nd.take k).any (fun n => n.1 == (p : Int))) = false ∧ Below wn.heap.size wn wq)
   case atStart => exact ⟨0, by omega, rfl, by rw [List.take_zero]; cases bl <;> rfl, Below.refl _ _⟩
   case round =>
    obtain ⟨k, hk, rfl, ho, hbw⟩ := hrel
    have HK := Lib.hid hk
    have HF2 := Lib.hid ho
    have HBQ := Lib.hid hbw
    clear hk ho hbw
    by_cases hlk : k < tn
    ·skip
     have d3 : (0 : Int) ≤ k := by omega
     have d4 : (k : Int) < tn := by omega
     have e2 := k_succ hlk (Nat.le_trans HTM.out (by decide))
     have HLK := Lib.hid hlk
     obtain ⟨⟨sj, B⟩, hs⟩ : ∃ s, x.nd[k]? = some s := ⟨_, List.getElem?_eq_getElem (by have := HTN.out; omega)⟩
     have hsb := HNB.out _ (List.mem_of_getElem? hs)
     dsimp only at hsb
     obtain ⟨j, rfl⟩ : ∃ j : Nat, sj = j := ⟨sj.toNat, by omega⟩
     have HJ31 : Hid (j ≤ 31) := Lib.hid (by omega)
     obtain ⟨A, hA⟩ : ∃ x, ta = x := ⟨_, rfl⟩
     have HAA := Lib.hid hA
     have hrow := HT.out
     rw [hA] at hrow ⊢
     rcases hrow with hnil | ⟨tb, toff, htb, ht0⟩
     ·have := HTN.out; rw [hnil] at this; simp at this; omega
     subst htb
     have t0 := cell_later HBQ.out (ht0 k _ hs 0 (.int .i64 (j : Int)) rfl)
     have t1 := cell_later HBQ.out (ht0 k _ hs 1 (.bool B) rfl)
     rw [Nat.add_zero] at t0
     have HSK := Lib.hid hs
     clear ht0 hs hsb hlk hA
     have s0 := blk_cell (blk_keep (below_on HBN.out HBQ.out) HQs.out) 0 _ (st_0 s)
     go_wp2_with fail
     refine (KHS.out _).mono ?_
     rintro e w9 ⟨rfl, hb9⟩
     have HB9 := Lib.hid (below_on HBQ.out hb9)
     have t0' := cell_later hb9 t0
     clear t0 t1 s0 hb9
     cases bl with
     | false =>
       go_wp2_with fail
       rw [← HAA.out]
       go_roundg (tn - (k + 1))
       case rel => exact ⟨k + 1, k_next HK.out HLK.out, by go_num, rfl, HB9.out⟩
       case measure => exact k_less HK.out HLK.out
     | true =>
       obtain ⟨D, hD⟩ : ∃ D, ((j : Int) == (p : Int)) = D := ⟨_, rfl⟩
       have HD : Hid ((fun n : Int × Bool => n.1 == (p : Int)) ((j : Int), B) = D) := Lib.hid hD
       have HF3 : Hid ((x.nd.take k).any (fun n => n.1 == (p : Int)) = false) := Lib.hid (by have := HF2.out; rw [Bool.true_and] at this; exact this)
       cases D with
       | true =>
         have HTT : Hid (b = true) := Lib.hid (HZ.out.symm.trans (ned_more (k := i + 1) (by rw [ned_succ (tbl_at HYX.out), HBL.out, rwl_nd, tk_yes HSK.out HD.out]; simp) n4 HLT.out))
         go_wp2_with fail
         go_ret
         exact ⟨by rw [HTT.out]; rfl, below_on HB0.out (below_on HBN.out HB9.out)⟩
       | false =>
         have HN : Hid ((true && (x.nd.take (k + 1)).any (fun n => n.1 == (p : Int))) = false) := Lib.hid (by rw [Bool.true_and]; exact tk_no HSK.out HF3.out HD.out)
         go_wp2_with fail
         rw [← HAA.out]
         go_roundg (tn - (k + 1))
         case rel => exact ⟨k + 1, k_next HK.out HLK.out, by go_num, HN.out, HB9.out⟩
         case measure => exact k_less HK.out HLK.out
    ·have d4 : ¬ ((k : Int) < tn) := by omega
     have HN : Hid (nedS (tbL L) s p (i + 1) = false) := Lib.hid (by
      have h := HF2.out
      rw [List.take_of_length_le (by have := HTN.out; omega)] at h
      rw [ned_succ (tbl_at HYX.out), HF.out, HBL.out, rwl_nd, h]; rfl)
     go_wp2_with fail
     rw [← HXX.out]
     go_roundg (n4 - (i + 1))
     case rel => exact ⟨i + 1, k_next HI.out HLT.out, by go_num, HN.out, below_on HBN.out HBQ.out⟩
     case measure => exact k_less HI.out HLT.out
  ·have d2 : ¬ ((i : Int) < n4) := by omega
   have HTT : Hid (b = false) := Lib.hid (by have h := HZ.out; rw [show n4 = i by have := HI.out; omega, HF.out] at h; exact h.symm)
   go_wp2_with fail
   go_ret
   exact ⟨by rw [HTT.out]; rfl, below_on HB0.out HB.out⟩
end Go.Proofs.Ytjienmjpfklgeaa
