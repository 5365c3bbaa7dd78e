/-
 Layer 10: IlxaSafe.
-/
import Derived.Test.YtjienmjpfklgeaaIyJ
import Derived.Test.YtjienmjpfklgeaaIyD
import Derived.Test.YtjienmjpfklgeaaIyR
namespace Go.Proofs.Ytjienmjpfklgeaa
open Go.RowKit
set_option maxRecDepth 100000
theorem mrightS {w V : World} {m : Nat} {M : Mc} {L : Lay} (hM : MachX (fun b => w.heap.size ≤ b) w m M) (hV : Below w.heap.size w V) (hc : (checkS L).1 = 0) (ht : M.tb = tbL L) (hp : M.pt = pw L.po.l.length - 1) (s : St) (hs : s.ok) :
 Calls Try.prog 18 #[.pointer (some ⟨m, 0, none⟩), .agg (stL s).toArray] V fun e w' => e = .returned (.bool (rgtS (tbL L) s)) ∧ Below V.heap.size V w' := by
 have h2 : M.li.l.length = L.po.l.length := by rw [← tb_li, ht, tbl_li]
 have h := mright_is (fun b => w.heap.size ≤ b) m M s V (hM.step (WX.of_below hV)) (by rw [ht]; exact tbl_ok hc) (by rw [hp, h2]) hs
 rw [ht] at h
 exact h
theorem mstepS {w V : World} {m : Nat} {M : Mc} {L : Lay} (hM : MachX (fun b => w.heap.size ≤ b) w m M) (hV : Below w.heap.size w V) (hc : (checkS L).1 = 0) (ht : M.tb = tbL L) (hp : M.pt = pw L.po.l.length - 1) (s : St) (hs : s.ok) (oc no re : Nat) (ho : oc < 18446744073709551616) (hn : no < 4294967296) (hr : re < 4294967296) (ca : Option Addr) (cn cc : Nat) (l : List (Nat × Int)) (hl : CmdsAt V ca l) (hln : l.length = cn) (hcc : cn ≤ cc) (hcn : cn ≤ 100000) :
 Calls Try.prog 11 #[.pointer (some ⟨m, 0, none⟩), .agg (stL s).toArray, .agg #[.int .u64 (oc : Int), .int .u32 (no : Int), .int .u32 (re : Int), .slice ca cn cc]] V fun e w' => e = .returned (.tuple #[.agg (stL (nextS (tbL L) s oc l)).toArray, .agg #[.int .u64 (outS (tbL L) (nextS (tbL L) s oc l) oc no re : Int), .int .u32 ((nextS (tbL L) s oc l).pt : Int)]]) ∧ Below V.heap.size V w' := by
 have h2 : M.li.l.length = L.po.l.length := by rw [← tb_li, ht, tbl_li]
 have h := mstep hM hV (by rw [ht]; exact tbl_ok hc) (by rw [hp, h2]) s hs oc no re ho hn hr ca cn cc l hl hln hcc hcn
 rw [ht] at h
 exact h
attribute [local irreducible] Sl.v hasBit pw withBit woBit cyL stL stV tmL freeS ndBad maySet ptL setS mayCan canS canD nedS flipB mayMov movS comG relS rouS proS tidyS comsG rousS prosS nextG outS lnOk rightK rgtS eqS Mc.tb upd mayS checkS sideN
attribute [local irreducible] tbL rwL secOf cofL Rt.tr Rt.nd conflictS pairS formedS
attribute [local irreducible] mskS
attribute [local irreducible] zS RwA

set_option maxHeartbeats 8000000 in
theorem ilxaSafe_is (L : Lay) (s : St) (oc no re : Nat) (ia : Option Addr) (il ic : Nat) (l : List (Nat × Int)) (w : World) (hL : LayAt w L) (hs : s.ok) (ho : oc < 18446744073709551616) (hno : no < 4294967296) (hre : re < 4294967296) (hcm : CmdsAt w ia l) (hln : l.length = il) (hic : il ≤ ic) :
 Calls Try.prog 6 #[.agg #[L.se.v, L.po.v, L.sg.v, L.rt.v], .agg (stL s).toArray, .agg #[.int .u64 (oc : Int), .int .u32 (no : Int), .int .u32 (re : Int), .slice ia il ic]] w fun e w' => e = .returned (.bool true) ∧ Below w.heap.size w w' := by
 obtain ⟨n1, hn1⟩ : ∃ n, L.se.l.length = n := ⟨_, rfl⟩
 obtain ⟨n2, hn2⟩ : ∃ n, L.po.l.length = n := ⟨_, rfl⟩
 obtain ⟨n3, hn3⟩ : ∃ n, L.sg.l.length = n := ⟨_, rfl⟩
 obtain ⟨n4, hn4⟩ : ∃ n, L.rt.l.length = n := ⟨_, rfl⟩
 obtain ⟨z, hz⟩ : ∃ z, weightS 400 L = z := ⟨_, rfl⟩
 by_cases h4 : 400 < z
 ·have KM : Hid (∀ V, Below w.heap.size w V → Calls Try.prog 10 #[.agg #[L.se.v, L.po.v, L.sg.v, L.rt.v]] V fun e w' => e = .returned (.tuple #[.pointer none, .bool false]) ∧ Below V.heap.size V w') := Lib.hid (fun V hV => made_big L V (hL.below hV) z hz h4)
  rw [slv hn1, slv hn2, slv hn3, slv hn4] at KM ⊢
  clear hn1 hn2 hn3 hn4 hL hs hz hcm hln hic ho hno hre
  go_enter Try.func6, Try.ntmps6
  go_upto_region 1 with fail
  refine name_last (os := [.cells #[.slice L.se.a n1 L.se.c, .slice L.po.a n2 L.po.c, .slice L.sg.a n3 L.sg.c, .slice L.rt.a n4 L.rt.c] 27, .cells (stL s).toArray 32, .cells #[.int .u64 (oc : Int), .int .u32 (no : Int), .int .u32 (re : Int), .slice ia il ic] 35]) (w0 := w) rfl ?_
  intro W hat hbw
  obtain ⟨gl, hgl⟩ : ∃ g, g = w.heap.size := ⟨_, rfl⟩
  have q0 := hat 0 _ rfl
  obtain ⟨gs, hgs⟩ : ∃ g, g = gl + 1 := ⟨_, rfl⟩
  have q1 := hat 1 _ rfl
  obtain ⟨gi, hgi⟩ : ∃ g, g = gs + 1 := ⟨_, rfl⟩
  have q2 := hat 2 _ rfl
  rw [Nat.add_zero, ← hgl] at q0
  rw [← hgl, ← hgs] at q1
  rw [← hgl, show gl + 2 = gi by omega] at q2
  rw [← hgl, ← hgs, ← hgi]
  have HQl := Lib.hid q0
  have HQs := Lib.hid q1
  have HQi := Lib.hid q2
  have HB0 := Lib.hid hbw
  clear hat hbw q0 q1 q2 hgl hgs hgi
  have l0 := blk_cell HQl.out 0 _ rfl
  have l1 := blk_cell HQl.out 1 _ rfl
  have l2 := blk_cell HQl.out 2 _ rfl
  have l3 := blk_cell HQl.out 3 _ rfl
  go_wp2_with fail
  refine (KM.out _ HB0.out).mono ?_
  rintro e w1 ⟨rfl, hb⟩
  have HB1 := Lib.hid (below_on HB0.out hb)
  clear hb l0 l1 l2 l3
  go_wp2_with fail
  refine (works_is _).mono ?_
  rintro e w2 ⟨rfl, hb⟩
  have HBE := Lib.hid (below_on HB1.out hb)
  clear hb
  go_wp2_with fail
  go_ret
  exact ⟨rfl, HBE.out⟩
 ·by_cases hc : (checkS L).1 = 0
  rotate_left
  ·have KM : Hid (∀ V, Below w.heap.size w V → Calls Try.prog 10 #[.agg #[L.se.v, L.po.v, L.sg.v, L.rt.v]] V fun e w' => e = .returned (.tuple #[.pointer none, .bool false]) ∧ Below V.heap.size V w') := Lib.hid (fun V hV => made_no L V (hL.below hV) z hz h4 _ rfl hc)
   rw [slv hn1, slv hn2, slv hn3, slv hn4] at KM ⊢
   clear hn1 hn2 hn3 hn4 hL hs hz hcm hln hic ho hno hre hc
   go_enter Try.func6, Try.ntmps6
   go_upto_region 1 with fail
   refine name_last (os := [.cells #[.slice L.se.a n1 L.se.c, .slice L.po.a n2 L.po.c, .slice L.sg.a n3 L.sg.c, .slice L.rt.a n4 L.rt.c] 27, .cells (stL s).toArray 32, .cells #[.int .u64 (oc : Int), .int .u32 (no : Int), .int .u32 (re : Int), .slice ia il ic] 35]) (w0 := w) rfl ?_
   intro W hat hbw
   obtain ⟨gl, hgl⟩ : ∃ g, g = w.heap.size := ⟨_, rfl⟩
   have q0 := hat 0 _ rfl
   obtain ⟨gs, hgs⟩ : ∃ g, g = gl + 1 := ⟨_, rfl⟩
   have q1 := hat 1 _ rfl
   obtain ⟨gi, hgi⟩ : ∃ g, g = gs + 1 := ⟨_, rfl⟩
   have q2 := hat 2 _ rfl
   rw [Nat.add_zero, ← hgl] at q0
   rw [← hgl, ← hgs] at q1
   rw [← hgl, show gl + 2 = gi by omega] at q2
   rw [← hgl, ← hgs, ← hgi]
   have HQl := Lib.hid q0
   have HQs := Lib.hid q1
   have HQi := Lib.hid q2
   have HB0 := Lib.hid hbw
   clear hat hbw q0 q1 q2 hgl hgs hgi
   have l0 := blk_cell HQl.out 0 _ rfl
   have l1 := blk_cell HQl.out 1 _ rfl
   have l2 := blk_cell HQl.out 2 _ rfl
   have l3 := blk_cell HQl.out 3 _ rfl
   go_wp2_with fail
   refine (KM.out _ HB0.out).mono ?_
   rintro e w1 ⟨rfl, hb⟩
   have HB1 := Lib.hid (below_on HB0.out hb)
   clear hb l0 l1 l2 l3
   go_wp2_with fail
   refine (works_is _).mono ?_
   rintro e w2 ⟨rfl, hb⟩
   have HBE := Lib.hid (below_on HB1.out hb)
   clear hb
   go_wp2_with fail
   go_ret
   exact ⟨rfl, HBE.out⟩
  ·have KM : Hid (∀ V, Below w.heap.size w V → Calls Try.prog 10 #[.agg #[L.se.v, L.po.v, L.sg.v, L.rt.v]] V fun e w' => ∃ m M, e = .returned (.tuple #[.pointer (some ⟨m, 0, none⟩), .bool true]) ∧ MachX (fun b => w'.heap.size ≤ b) w' m M ∧ M.tb = tbL L ∧ M.pt = pw L.po.l.length - 1 ∧ Below V.heap.size V w') := Lib.hid (fun V hV => (made_is L V (hL.below hV) z hz h4 hc).mono (fun _ _ ⟨m, M, e1, e2, e3, e4, e5⟩ => ⟨m, M, e1, mach_low e2, e3, e4, e5⟩))
   obtain ⟨NS, hNS⟩ : ∃ t, nextS (tbL L) s oc l = t := ⟨_, rfl⟩
   obtain ⟨OP, hOP⟩ : ∃ t, outS (tbL L) NS oc no re = t := ⟨_, rfl⟩
   obtain ⟨PT, hPT⟩ : ∃ t, NS.pt = t := ⟨_, rfl⟩
   obtain ⟨R1, hR1⟩ : ∃ b, rgtS (tbL L) s = b := ⟨_, rfl⟩
   have KSF0 : Hid (Rg (tbL L) NS → ∀ V, Below w.heap.size w V → Calls Try.prog 21 #[.agg #[L.se.v, L.po.v, L.sg.v, L.rt.v], .agg (stL NS).toArray, .agg #[.int .u64 (oc : Int), .int .u32 (no : Int), .int .u32 (re : Int), .slice ia il ic], .agg #[.int .u64 (OP : Int), .int .u32 (PT : Int)]] V fun e w' => e = .returned (.bool true) ∧ Below V.heap.size V w') := Lib.hid (fun hR V hV => by
    have h := safe_is L NS oc no re OP ia il ic V (hL.below hV) hc hR ho hno hre hOP
    rw [hPT] at h
    exact h)
   have HNSO : Hid (nextS (tbL L) s oc l = NS ∧ outS (tbL L) NS oc no re = OP ∧ NS.pt = PT) := Lib.hid ⟨hNS, hOP, hPT⟩
   have HR1 := Lib.hid hR1
   have HCK := Lib.hid hc
   have HSO := Lib.hid hs
   have HOC := Lib.hid (And.intro ho (And.intro hno hre))
   have HCM := Lib.hid hcm
   have HLN := Lib.hid (And.intro hln hic)
   rw [slv hn1, slv hn2, slv hn3, slv hn4] at KM KSF0 ⊢
   clear hn1 hn2 hn3 hn4 hL hs hz hcm hln hic ho hno hre hc h4 hNS hOP hPT hR1
   go_enter Try.func6, Try.ntmps6
   go_upto_region 1 with fail
   refine name_last (os := [.cells #[.slice L.se.a n1 L.se.c, .slice L.po.a n2 L.po.c, .slice L.sg.a n3 L.sg.c, .slice L.rt.a n4 L.rt.c] 27, .cells (stL s).toArray 32, .cells #[.int .u64 (oc : Int), .int .u32 (no : Int), .int .u32 (re : Int), .slice ia il ic] 35]) (w0 := w) rfl ?_
   intro W hat hbw
   obtain ⟨gl, hgl⟩ : ∃ g, g = w.heap.size := ⟨_, rfl⟩
   have q0 := hat 0 _ rfl
   obtain ⟨gs, hgs⟩ : ∃ g, g = gl + 1 := ⟨_, rfl⟩
   have q1 := hat 1 _ rfl
   obtain ⟨gi, hgi⟩ : ∃ g, g = gs + 1 := ⟨_, rfl⟩
   have q2 := hat 2 _ rfl
   rw [Nat.add_zero, ← hgl] at q0
   rw [← hgl, ← hgs] at q1
   rw [← hgl, show gl + 2 = gi by omega] at q2
   rw [← hgl, ← hgs, ← hgi]
   have HQl := Lib.hid q0
   have HQs := Lib.hid q1
   have HQi := Lib.hid q2
   have HB0 := Lib.hid hbw
   clear hat hbw q0 q1 q2 hgl hgs hgi
   have l0 := blk_cell HQl.out 0 _ rfl
   have l1 := blk_cell HQl.out 1 _ rfl
   have l2 := blk_cell HQl.out 2 _ rfl
   have l3 := blk_cell HQl.out 3 _ rfl
   go_wp2_with fail
   refine (KM.out _ HB0.out).mono ?_
   rintro e w1 ⟨m, M, rfl, hM, ht, hp, hb⟩
   have HM := Lib.hid (And.intro hM (And.intro ht hp))
   have HB1 := Lib.hid (below_on HB0.out hb)
   have HCL1 := Lib.hid (blk_keep hb HQl.out)
   have HCS1 := Lib.hid (blk_keep hb HQs.out)
   have HCI1 := Lib.hid (blk_keep hb HQi.out)
   have HM1 := Lib.hid (Below.refl w1.heap.size w1)
   clear hb hM ht hp l0 l1 l2 l3
   have i3 := blk_cell HCI1.out 3 _ rfl
   have HLD := Lib.hid (load_st HCS1.out)
   by_cases h100 : 100 < il
   ·have d : (100 : Int) < (il : Int) := by omega
    have dd : decide ((100 : Int) < (il : Int)) = true := decide_eq_true d
    clear h100
    go_wp2_with fail
    refine (works_is _).mono ?_
    rintro e w2 ⟨rfl, hb⟩
    have HBE := Lib.hid (below_on HB1.out hb)
    clear hb
    go_wp2_with fail
    go_ret
    exact ⟨rfl, HBE.out⟩
   ·have d : ¬ (100 : Int) < (il : Int) := by omega
    have dd : decide ((100 : Int) < (il : Int)) = false := decide_eq_false d
    have H100 := Lib.hid h100
    clear h100
    go_wp2_with (first
     | ((with_reducible refine wpList_load_if (op := ⟨some 26, _, _, _, _, _⟩) ?_ 32 _ rfl _ _ ?_ HLD.out ?_); (· rfl); (· rfl)))
    have KRS : Hid (∀ V, Below w1.heap.size w1 V → Calls Try.prog 18 #[.pointer (some ⟨m, 0, none⟩), .agg (stL s).toArray] V fun e w' => e = .returned (.bool R1) ∧ Below V.heap.size V w') := Lib.hid (fun V hV => by
     have h := mrightS HM.out.1 hV HCK.out HM.out.2.1 HM.out.2.2 s HSO.out
     rw [HR1.out] at h
     exact h)

    refine (KRS.out _ HM1.out).mono ?_
    rintro e w2 ⟨rfl, hb⟩
    have HB2 := Lib.hid (below_on HB1.out hb)
    have HM2 := Lib.hid hb
    have HCL2 := Lib.hid (blk_keep hb HCL1.out)
    have HCS2 := Lib.hid (blk_keep hb HCS1.out)
    have HCI2 := Lib.hid (blk_keep hb HCI1.out)
    clear hb i3 HLD d dd KRS
    cases R1 with
    | false =>
      go_wp2_with fail
      refine (works_is _).mono ?_
      rintro e w3 ⟨rfl, hb⟩
      have HBE := Lib.hid (below_on HB2.out hb)
      clear hb
      go_wp2_with fail
      go_ret
      exact ⟨rfl, HBE.out⟩
    | true =>
      have HRG : Hid (Rg (tbL L) s) := Lib.hid (rg_of HSO.out HR1.out)
      have HRN : Hid (Rg (tbL L) NS) := Lib.hid (by have h := rg_next (tbl_right HCK.out) HRG.out oc l; rw [HNSO.out.1] at h; exact h)
      have KRN : Hid (∀ V, Below w1.heap.size w1 V → Calls Try.prog 18 #[.pointer (some ⟨m, 0, none⟩), .agg (stL NS).toArray] V fun e w' => e = .returned (.bool true) ∧ Below V.heap.size V w') := Lib.hid (fun V hV => by
       have h := mrightS HM.out.1 hV HCK.out HM.out.2.1 HM.out.2.2 NS HRN.out.ok
       rw [rg_to HRN.out] at h
       exact h)
      have KST : Hid (∀ V, Below w1.heap.size w1 V → Calls Try.prog 11 #[.pointer (some ⟨m, 0, none⟩), .agg (stL s).toArray, .agg #[.int .u64 (oc : Int), .int .u32 (no : Int), .int .u32 (re : Int), .slice ia il ic]] V fun e w' => e = .returned (.tuple #[.agg (stL NS).toArray, .agg #[.int .u64 (OP : Int), .int .u32 (PT : Int)]]) ∧ Below V.heap.size V w') := Lib.hid (fun V hV => by
       have h := mstepS HM.out.1 hV HCK.out HM.out.2.1 HM.out.2.2 s HSO.out oc no re HOC.out.1 HOC.out.2.1 HOC.out.2.2 ia il ic l (HCM.out.below (below_on HB1.out hV)) HLN.out.1 HLN.out.2 (by have := H100.out; omega)
       rw [HNSO.out.1, HNSO.out.2.1, HNSO.out.2.2] at h
       exact h)
      have KSF := Lib.hid (KSF0.out HRN.out)
      clear KSF0
      have i0 := blk_cell HCI2.out 0 _ rfl
      have i1 := blk_cell HCI2.out 1 _ rfl
      have i2 := blk_cell HCI2.out 2 _ rfl
      have i3 := blk_cell HCI2.out 3 _ rfl
      have HLD := Lib.hid (load_st HCS2.out)
      go_wp2_with (first
       | ((with_reducible refine wpList_load_is (op := ⟨some 33, _, _, _, _, _⟩) rfl 32 _ rfl _ _ ?_ HLD.out ?_); (· rfl)))
      refine (KST.out _ HM2.out).mono ?_
      rintro e w3 ⟨rfl, hb⟩
      have HB3 := Lib.hid (below_on HB2.out hb)
      have HM3 := Lib.hid (below_on HM2.out hb)
      have HCL3 := Lib.hid (blk_keep hb HCL2.out)
      have HCI3 := Lib.hid (blk_keep hb HCI2.out)
      clear hb i0 i1 i2 i3 HLD
      have ha3 := alloc1 w3 (.cells (stL zS).toArray 32) (Below.refl _ _)
      have hb3 := alloc1 (w3.alloc (.cells (stL zS).toArray 32)) (.cells #[.int .u64 0, .int .u32 0] 48) (Below.refl _ _)
      rw [alloc_size] at hb3
      have hc3 := blk_keep (below1 (w3.alloc (.cells (stL zS).toArray 32)) (.cells #[.int .u64 0, .int .u32 0] 48)) ha3
      have hk3 : Below w3.heap.size w3 ((w3.alloc (.cells (stL zS).toArray 32)).alloc (.cells #[.int .u64 0, .int .u32 0] 48)) := below_on (below1 _ _) (below1 _ _)
      obtain ⟨hst, hq9, ho9⟩ := store_st (s' := NS) hc3
      have HST := Lib.hid hst
      have HS3 := Lib.hid hq9
      have HO3 := Lib.hid (Only.keep ho9 (by omega) hb3)
      have HKK3 : Hid (Below w3.heap.size w3 (((w3.alloc (.cells (stL zS).toArray 32)).alloc (.cells #[.int .u64 0, .int .u32 0] 48)).setCells w3.heap.size 0 (stL NS))) := Lib.hid (Only.below hk3 (Nat.le_refl _) hk3.size ho9)
      obtain ⟨V3, hV3⟩ : ∃ V', V' = ((w3.alloc (.cells (stL zS).toArray 32)).alloc (.cells #[.int .u64 0, .int .u32 0] 48)).setCells w3.heap.size 0 (stL NS) := ⟨_, rfl⟩
      rw [← hV3] at HST HS3 HO3 HKK3
      clear ha3 hb3 hc3 hk3 hst hq9 ho9 hV3
      have c0 := blk_cell HO3.out 0 _ rfl
      have c1 := blk_cell HO3.out 1 _ rfl
      have f0 := blk_free HO3.out 0
      have f1 := blk_free HO3.out 1
      have hl := blk_lt HO3.out
      go_upto_region 5 with (first
       | rw [zero_st]
       | ((with_reducible refine wpList_store_is (op := ⟨none, .store 32 _ _, _, _, _, _⟩) rfl 32 _ _ rfl _ _ ?_ ?_ _ HST.out ?_); (· rfl); (· rfl)))
      clear c0 c1 f0 f1 hl
      refine name_any ?_
      intro X3 hX3
      have ho : Only (w3.heap.size + 1) V3 X3 := by rw [hX3]; exact ((Only.refl (w3.heap.size + 1) V3).setCell rfl _).setCell rfl _
      have HOx3 : Hid (X3.heap[w3.heap.size + 1]? = some (.cells #[.int .u64 (OP : Int), .int .u32 (PT : Int)] 48)) := Lib.hid (by rw [hX3]; exact blk_set (blk_set HO3.out 0 _) 1 _)
      have HSx3 := Lib.hid (Only.keep ho (by omega) HS3.out)
      have HK3 : Hid (Below w3.heap.size w3 X3) := Lib.hid (Only.below HKK3.out (by omega) HKK3.out.size ho)
      have HBx3 := Lib.hid (below_on HB3.out HK3.out)
      have HMx3 := Lib.hid (below_on HM3.out HK3.out)
      have HCLx3 := Lib.hid (blk_keep HK3.out HCL3.out)
      have HCIx3 := Lib.hid (blk_keep HK3.out HCI3.out)
      obtain ⟨ga3, hga3⟩ : ∃ g, g = w3.heap.size := ⟨_, rfl⟩
      obtain ⟨gb3, hgb3⟩ : ∃ g, g = ga3 + 1 := ⟨_, rfl⟩
      rw [← hga3] at HSx3 HOx3 ⊢
      rw [← hgb3] at HOx3 ⊢
      have HT3x3 := HSx3
      have HU3x3 := HOx3
      clear HSx3 HOx3
      clear hX3 ho hga3 hgb3 HST HS3 HO3 HKK3 HK3 HB3 HM3 HCL3 HCI3
      have HLD := Lib.hid (load_st HT3x3.out)
      go_wp2_with (first
       | ((with_reducible refine wpList_load_is (op := ⟨some 39, _, _, _, _, _⟩) rfl 32 _ rfl _ _ ?_ HLD.out ?_); (· rfl)))
      refine (KRN.out _ HMx3.out).mono ?_
      rintro e w4 ⟨rfl, hb⟩
      have HB4 := Lib.hid (below_on HBx3.out hb)
      have HT4 := Lib.hid (blk_keep hb HT3x3.out)
      have HU4 := Lib.hid (blk_keep hb HU3x3.out)
      have HCL4 := Lib.hid (blk_keep hb HCLx3.out)
      have HCI4 := Lib.hid (blk_keep hb HCIx3.out)
      clear hb HLD
      have HLD := Lib.hid (load_st HT4.out)
      have l0 := blk_cell HCL4.out 0 _ rfl
      have l1 := blk_cell HCL4.out 1 _ rfl
      have l2 := blk_cell HCL4.out 2 _ rfl
      have l3 := blk_cell HCL4.out 3 _ rfl
      have i0 := blk_cell HCI4.out 0 _ rfl
      have i1 := blk_cell HCI4.out 1 _ rfl
      have i2 := blk_cell HCI4.out 2 _ rfl
      have i3 := blk_cell HCI4.out 3 _ rfl
      have u0 := blk_cell HU4.out 0 _ rfl
      have u1 := blk_cell HU4.out 1 _ rfl
      go_wp2_with (first
       | ((with_reducible refine wpList_load_if (op := ⟨some 43, _, _, _, _, _⟩) ?_ 32 _ rfl _ _ ?_ HLD.out ?_); (· rfl); (· rfl)))
      refine (KSF.out _ HB4.out).mono ?_
      rintro e w5 ⟨rfl, hb⟩
      have HB5 := Lib.hid (below_on HB4.out hb)
      clear hb HLD l0 l1 l2 l3 i0 i1 i2 i3 u0 u1
      go_wp2_with fail
      refine (works_is _).mono ?_
      rintro e w6 ⟨rfl, hb⟩
      have HBE := Lib.hid (below_on HB5.out hb)
      clear hb
      go_wp2_with fail
      go_ret
      exact ⟨rfl, HBE.out⟩
theorem walk_IlxaSafe (v0 v1 v2 : Array Value) (w : World) (_s0 : v0.size = Try.prog.cellsOf 27) (w0 : Rd Try.prog w 27 v0.toList) (_s1 : v1.size = Try.prog.cellsOf 32) (w1 : Rd Try.prog w 32 v1.toList) (_s2 : v2.size = Try.prog.cellsOf 35) (w2 : Rd Try.prog w 35 v2.toList) :
 Calls Try.prog 6 #[.agg v0, .agg v1, .agg v2] w fun e w' => e = .returned (.bool true) ∧ Below w.heap.size w w' := by
 obtain ⟨L, hv, hL⟩ := lay_of w0
 obtain rfl : v0 = #[L.se.v, L.po.v, L.sg.v, L.rt.v] := by apply Array.toList_inj.1; rw [hv]
 obtain ⟨s, rfl, hs⟩ := state_rd w1
 obtain ⟨oc, no, re, ia, il, ic, l, rfl, ho, hno, hre, hln, _, hcm, _, hic, _⟩ := input_of w2
 exact ilxaSafe_is L s oc no re ia il ic l w hL hs ho hno hre hcm hln hic
end Go.Proofs.Ytjienmjpfklgeaa
