/-
 Layer 10: IlxaStep.
-/
import Derived.Test.YtjienmjpfklgeaaIyB
import Derived.Test.YtjienmjpfklgeaaIyD
import Derived.Test.YtjienmjpfklgeaaIyH
import Derived.Test.YtjienmjpfklgeaaReadZ
import Derived.Test.YtjienmjpfklgeaaIyR
namespace Go.Proofs.Ytjienmjpfklgeaa
open Go.RowKit
set_option maxRecDepth 100000
theorem eqs_self (s : St) : eqS s s = true := by
 unfold eqS
 simp
theorem eq_self (s : St) (w : World) : (binOp .eql 32 (.agg (stL s).toArray) (.agg (stL s).toArray)).run Try.prog w = .ok (.bool true) w := by
 have h := eql_st s s w
 rw [eqs_self] at h
 exact h
theorem out_plain : Try.prog.stoodInHeld 48 = false := by kernel_rfl
theorem out_fields : (Try.prog.fieldsOf 48).toList.map (fun f => (f.name, f.type, f.offset)) = [("Proceed", 28, 0), ("Points", 30, 1)] := by kernel_rfl
theorem out_equal (w : World) (k1 n1 : Int) : (Op.equalIn 10000 48 (.agg #[.int .u64 k1, .int .u32 n1]) (.agg #[.int .u64 k1, .int .u32 n1])).run Try.prog w = .ok true w := by
 rw [run_equalIn_agg w 9999 48 _ _ (by kernel_rfl) out_plain]
 have h := out_fields
 obtain ⟨f, L1, hL, hf, h1⟩ := List.map_eq_cons_iff.1 h
 obtain ⟨g, L2, hL1, hg, h2⟩ := List.map_eq_cons_iff.1 h1
 obtain rfl := List.map_eq_nil_iff.1 h2
 simp only [Prod.mk.injEq] at hf hg
 obtain ⟨a1, a2, a3⟩ := hf
 obtain ⟨b1, b2, b3⟩ := hg
 rw [hL, hL1]
 simp [Op.eqFields, a1, a2, a3, b1, b2, b3, part, go_sem]
theorem eq_out (w : World) (k1 n1 : Int) : (binOp .eql 48 (.agg #[.int .u64 k1, .int .u32 n1]) (.agg #[.int .u64 k1, .int .u32 n1])).run Try.prog w = .ok (.bool true) w := by
 rw [run_eql_struct, out_equal]; rfl
theorem reach_le : reachBytes ≤ 140737488355328 := Nat.le_of_lt reachBytes_lt
theorem name_b {P : World → Prop} {x : World} (h : ∀ y, y = x → P y) : P x := h x rfl
attribute [local irreducible] Sl.v hasBit pw withBit woBit cyL stL stV tmL freeS ndBad maySet ptL setS mayCan canS canD nedS flipB mayMov movS comG relS rouS proS tidyS comsG rousS prosS nextG outS lnOk rightK rgtS eqS Mc.tb upd mayS checkS sideN
attribute [local irreducible] tbL rwL secOf cofL Rt.tr Rt.nd conflictS pairS formedS
attribute [local irreducible] mskS
attribute [local irreducible] zS Lay.er Rt.er

set_option maxHeartbeats 16000000 in
theorem ilxaStep_is (L : Lay) (hzz : LayZ L) (s : St) (oc no re : Nat) (ia : Option Addr) (il ic : Nat) (l : List (Nat × Int)) (w : World) (hL : LayAt w L) (hs : s.ok) (ho : oc < 18446744073709551616) (hno : no < 4294967296) (hre : re < 4294967296) (hcm : CmdsAt w ia l) (hln : l.length = il) (hic : il ≤ ic) (hcap : ic ≤ maxLen) (hnil : ia = none → ic = 0) :
 Calls Try.prog 3 #[.agg #[L.se.v, L.po.v, L.sg.v, L.rt.v], .agg (stL s).toArray, .agg #[.int .u64 (oc : Int), .int .u32 (no : Int), .int .u32 (re : Int), .slice ia il ic]] w fun e w' => e = .returned (.bool true) ∧ Below w.heap.size w w' := by
 obtain ⟨n1, hn1⟩ : ∃ n, L.se.l.length = n := ⟨_, rfl⟩
 obtain ⟨n2, hn2⟩ : ∃ n, L.po.l.length = n := ⟨_, rfl⟩
 obtain ⟨n3, hn3⟩ : ∃ n, L.sg.l.length = n := ⟨_, rfl⟩
 obtain ⟨n4, hn4⟩ : ∃ n, L.rt.l.length = n := ⟨_, rfl⟩
 obtain ⟨z, hz⟩ : ∃ z, weightS 400 L = z := ⟨_, rfl⟩
 have HNS := Lib.hid (And.intro hn1 (And.intro hn2 (And.intro hn3 hn4)))
 have KC : Hid (∀ V, Below w.heap.size w V → Calls Try.prog 9 #[.agg #[L.se.v, L.po.v, L.sg.v, L.rt.v]] V fun e w'' => ∃ M, e = .returned (.agg #[M.se.v, M.po.v, M.sg.v, M.rt.v]) ∧ LayX (fun b => b < V.heap.size) w'' M ∧ SameLay L M ∧ Below V.heap.size V w'') := Lib.hid (fun V hV => copy_bytes L V (hL.below hV) (Nat.le_trans hzz.se16 reach_le) (Nat.le_trans hzz.po24 reach_le) (Nat.le_trans hzz.sg24 reach_le) (Nat.le_trans hzz.rt120 reach_le) (fun r hr => ⟨Nat.le_trans (hzz.rt r hr).pa8 reach_le, Nat.le_trans (hzz.rt r hr).po16 reach_le, Nat.le_trans (hzz.rt r hr).ov8 reach_le, Nat.le_trans (hzz.rt r hr).fl16 reach_le⟩))
 by_cases h100 : 100 < il
 ·have d : (100 : Int) < (il : Int) := by omega
  rw [slv hn1, slv hn2, slv hn3, slv hn4]
  clear hn1 hn2 hn3 hn4 hL hs hz hzz hcm hln hic hcap hnil ho hno hre KC
  go_enter Try.func3, Try.ntmps3
  go_upto_region 1 with fail
  refine name_last (os := [.cells #[.slice L.se.a n1 L.se.c, .slice L.po.a n2 L.po.c, .slice L.sg.a n3 L.sg.c, .slice L.rt.a n4 L.rt.c] 27, .cells (stL s).toArray 32, .cells #[.int .u64 (oc : Int), .int .u32 (no : Int), .int .u32 (re : Int), .slice ia il ic] 35]) (w0 := w) rfl ?_
  intro W hat hbw
  obtain ⟨gl, hgl⟩ : ∃ g, g = w.heap.size := ⟨_, rfl⟩
  have q0 := hat 0 _ rfl
  obtain ⟨gs, hgs⟩ : ∃ g, g = gl + 1 := ⟨_, rfl⟩
  have q1 := hat 1 _ rfl
  obtain ⟨gi, hgi⟩ : ∃ g, g = gs + 1 := ⟨_, rfl⟩
  have q2 := hat 2 _ rfl
  rw [Nat.add_zero, ← hgl] at q0
  rw [← hgl, ← hgs] at q1
  rw [← hgl, show gl + 2 = gi by omega] at q2
  rw [← hgl, ← hgs, ← hgi]
  have HQl := Lib.hid q0
  have HQs := Lib.hid q1
  have HQi := Lib.hid q2
  have HB0 := Lib.hid hbw
  have HGI := Lib.hid (show gi < W.heap.size from blk_lt q2)
  have HGL := Lib.hid (show gl < W.heap.size from blk_lt q0)
  have HGS := Lib.hid (show gs < W.heap.size from blk_lt q1)
  clear hat hbw q0 q1 q2 hgl hgs hgi
  have l0 := blk_cell HQl.out 0 _ rfl
  have l1 := blk_cell HQl.out 1 _ rfl
  have l2 := blk_cell HQl.out 2 _ rfl
  have l3 := blk_cell HQl.out 3 _ rfl
  have i3 := blk_cell HQi.out 3 _ rfl
  go_wp2_with fail
  clear i3 l0 l1 l2 l3
  refine (works_is _).mono ?_
  rintro e w2 ⟨rfl, hb⟩
  have HBE := Lib.hid (below_on HB0.out hb)
  clear hb
  go_wp2_with fail
  go_ret
  exact ⟨rfl, HBE.out⟩
 ·have d : ¬ (100 : Int) < (il : Int) := by omega
  have H100 := Lib.hid h100
  by_cases hbad : 400 < z ∨ ¬ (checkS L).1 = 0
  ·have KMD : Hid (∀ M, SameLay L M → ∀ V, LayAt V M → Calls Try.prog 10 #[.agg #[M.se.v, M.po.v, M.sg.v, M.rt.v]] V fun e w' => e = .returned (.tuple #[.pointer none, .bool false]) ∧ Below V.heap.size V w') := Lib.hid (fun M hs V hM => by
    obtain ⟨e1, _, e3, _⟩ := same_all hs
    by_cases h4 : 400 < z
    ·exact made_big M V hM z (by rw [e3]; exact hz) h4
    ·exact made_no M V hM z (by rw [e3]; exact hz) h4 _ rfl (by rw [e1]; exact hbad.resolve_left h4))
   rw [slv hn1, slv hn2, slv hn3, slv hn4] at KC ⊢
   clear hn1 hn2 hn3 hn4 hL hs hz hzz hcm hln hic hcap hnil ho hno hre h100 hbad
   go_enter Try.func3, Try.ntmps3
   go_upto_region 1 with fail
   refine name_last (os := [.cells #[.slice L.se.a n1 L.se.c, .slice L.po.a n2 L.po.c, .slice L.sg.a n3 L.sg.c, .slice L.rt.a n4 L.rt.c] 27, .cells (stL s).toArray 32, .cells #[.int .u64 (oc : Int), .int .u32 (no : Int), .int .u32 (re : Int), .slice ia il ic] 35]) (w0 := w) rfl ?_
   intro W hat hbw
   obtain ⟨gl, hgl⟩ : ∃ g, g = w.heap.size := ⟨_, rfl⟩
   have q0 := hat 0 _ rfl
   obtain ⟨gs, hgs⟩ : ∃ g, g = gl + 1 := ⟨_, rfl⟩
   have q1 := hat 1 _ rfl
   obtain ⟨gi, hgi⟩ : ∃ g, g = gs + 1 := ⟨_, rfl⟩
   have q2 := hat 2 _ rfl
   rw [Nat.add_zero, ← hgl] at q0
   rw [← hgl, ← hgs] at q1
   rw [← hgl, show gl + 2 = gi by omega] at q2
   rw [← hgl, ← hgs, ← hgi]
   have HQl := Lib.hid q0
   have HQs := Lib.hid q1
   have HQi := Lib.hid q2
   have HB0 := Lib.hid hbw
   have HGI := Lib.hid (show gi < W.heap.size from blk_lt q2)
   have HGL := Lib.hid (show gl < W.heap.size from blk_lt q0)
   have HGS := Lib.hid (show gs < W.heap.size from blk_lt q1)
   clear hat hbw q0 q1 q2 hgl hgs hgi
   have l0 := blk_cell HQl.out 0 _ rfl
   have l1 := blk_cell HQl.out 1 _ rfl
   have l2 := blk_cell HQl.out 2 _ rfl
   have l3 := blk_cell HQl.out 3 _ rfl
   have i3 := blk_cell HQi.out 3 _ rfl
   go_wp2_with fail
   clear i3
   refine (KC.out _ HB0.out).mono ?_
   rintro e w2 ⟨M, rfl, hx, hsm, hb⟩
   have HB2 := Lib.hid (below_on HB0.out hb)
   have HBW := Lib.hid hb
   have HLX := Lib.hid hx
   have HSM := Lib.hid hsm
   have hm1 : M.se.l.length = n1 := by rw [hsm.se]; exact HNS.out.1
   have hm2 : M.po.l.length = n2 := by rw [hsm.po]; exact HNS.out.2.1
   have hm3 : M.sg.l.length = n3 := by rw [hsm.sg]; exact HNS.out.2.2.1
   have hm4 : M.rt.l.length = n4 := by rw [← HNS.out.2.2.2]; have := congrArg List.length hsm.rt; simpa using this
   obtain ⟨ra, hra⟩ : ∃ a, M.rt.a = a := ⟨_, rfl⟩
   obtain ⟨rc4, hrc⟩ : ∃ a, M.rt.c = a := ⟨_, rfl⟩
   have HRA := Lib.hid (And.intro hra hm4)
   have KM := Lib.hid (KMD.out M hsm)
   rw [slv hm1, slv hm2, slv hm3, slv hm4, hra, hrc] at KM ⊢
   clear hb hx hsm hm1 hm2 hm3 hm4 hra hrc KC KMD l0 l1 l2 l3
   go_upto_region 4 with fail
   have hbx := below1 w2 (.cells #[.slice M.se.a n1 M.se.c, .slice M.po.a n2 M.po.c, .slice M.sg.a n3 M.sg.c, .slice ra n4 rc4] 27)
   have hqx := alloc1 w2 (.cells #[.slice M.se.a n1 M.se.c, .slice M.po.a n2 M.po.c, .slice M.sg.a n3 M.sg.c, .slice ra n4 rc4] 27) (Below.refl _ _)
   obtain ⟨w3, hw3⟩ : ∃ W, W = w2.alloc (.cells #[.slice M.se.a n1 M.se.c, .slice M.po.a n2 M.po.c, .slice M.sg.a n3 M.sg.c, .slice ra n4 rc4] 27) := ⟨_, rfl⟩
   rw [← hw3] at hbx hqx ⊢
   obtain ⟨gw, hgw⟩ : ∃ g, g = w2.heap.size := ⟨_, rfl⟩
   rw [← hgw] at hqx ⊢
   have HX3 := Lib.hid hqx
   have HB3 := Lib.hid (below_on HB2.out hbx)
   have HBX := Lib.hid hbx
   have HGW := Lib.hid hgw
   clear hbx hqx hw3 hgw
   obtain ⟨m0, m1, m2, m3⟩ := k_box HX3.out
   go_wp2_with fail
   clear m0 m1 m2 m3
   refine (KM.out w3 (HLX.out.at_.below HBX.out)).mono ?_
   rintro e w4 ⟨rfl, hb⟩
   have HB4 := Lib.hid (below_on HB3.out hb)
   clear hb
   go_wp2_with fail
   refine (works_is _).mono ?_
   rintro e w5 ⟨rfl, hb⟩
   have HBE := Lib.hid (below_on HB4.out hb)
   clear hb
   go_wp2_with fail
   go_ret
   exact ⟨rfl, HBE.out⟩
  ·have hc : (checkS L).1 = 0 := by
    by_cases hc : (checkS L).1 = 0
    ·exact hc
    ·exact absurd (.inr hc) hbad
   have h4 : ¬ 400 < z := fun h => hbad (.inl h)
   have KMD : Hid (∀ M, SameLay L M → ∀ V, LayAt V M → Calls Try.prog 10 #[.agg #[M.se.v, M.po.v, M.sg.v, M.rt.v]] V fun e w' => ∃ m Mc, e = .returned (.tuple #[.pointer (some ⟨m, 0, none⟩), .bool true]) ∧ MachX (fun b => b < V.heap.size) w' m Mc ∧ Mc.tb = tbL L ∧ Mc.pt = pw L.po.l.length - 1 ∧ Below V.heap.size V w') := Lib.hid (fun M hs V hM => by
    obtain ⟨e1, e2, e3, e4⟩ := same_all hs
    have h := made_is M V hM z (by rw [e3]; exact hz) h4 (by rw [e1]; exact hc)
    rw [e2, e4] at h
    exact h)
   obtain ⟨NS, hNS⟩ : ∃ t, nextS (tbL L) s oc l = t := ⟨_, rfl⟩
   obtain ⟨OP, hOP⟩ : ∃ t, outS (tbL L) NS oc no re = t := ⟨_, rfl⟩
   obtain ⟨PT, hPT⟩ : ∃ t, NS.pt = t := ⟨_, rfl⟩
   have KDS : Hid (∀ V, Below w.heap.size w V → Calls Try.prog 12 #[.agg #[L.se.v, L.po.v, L.sg.v, L.rt.v], .agg (stL s).toArray, .agg #[.int .u64 (oc : Int), .int .u32 (no : Int), .int .u32 (re : Int), .slice ia il ic]] V fun e w' => e = .returned (.tuple #[.agg (stL NS).toArray, .agg #[.int .u64 (OP : Int), .int .u32 (PT : Int)]]) ∧ Below V.heap.size V w') := Lib.hid (fun V hV => by
    have h := dstep_is L s oc no re ia il ic l V (hL.below hV) hc hs ho hno hre (hcm.below hV) hln (by omega)
    rw [next_same, hNS, hOP, hPT] at h
    exact h)
   have HNS2 := Lib.hid hn2
   have HNSO : Hid (nextS (tbL L) s oc l = NS ∧ outS (tbL L) NS oc no re = OP ∧ NS.pt = PT) := Lib.hid ⟨hNS, hOP, hPT⟩
   have HTK := Lib.hid (tbl_ok hc)
   have HSO := Lib.hid hs
   have HOC := Lib.hid (And.intro ho (And.intro hno hre))
   have HCM := Lib.hid hcm
   have HLN := Lib.hid (And.intro hln (And.intro hic (And.intro hcap hnil)))
   have HCK := Lib.hid hc
   have HN4 : Hid (n4 ≤ 9223372036854775807) := Lib.hid (by rw [← hn4]; exact hL.rt.lenM)
   rw [slv hn1, slv hn2, slv hn3, slv hn4] at KC KDS ⊢
   clear hn1 hn2 hn3 hn4 hL hs hz hzz hcm hln hic hcap hnil ho hno hre h100 hbad hc h4 hNS hOP hPT
   go_enter Try.func3, Try.ntmps3
   go_upto_region 1 with fail
   refine name_last (os := [.cells #[.slice L.se.a n1 L.se.c, .slice L.po.a n2 L.po.c, .slice L.sg.a n3 L.sg.c, .slice L.rt.a n4 L.rt.c] 27, .cells (stL s).toArray 32, .cells #[.int .u64 (oc : Int), .int .u32 (no : Int), .int .u32 (re : Int), .slice ia il ic] 35]) (w0 := w) rfl ?_
   intro W hat hbw
   obtain ⟨gl, hgl⟩ : ∃ g, g = w.heap.size := ⟨_, rfl⟩
   have q0 := hat 0 _ rfl
   obtain ⟨gs, hgs⟩ : ∃ g, g = gl + 1 := ⟨_, rfl⟩
   have q1 := hat 1 _ rfl
   obtain ⟨gi, hgi⟩ : ∃ g, g = gs + 1 := ⟨_, rfl⟩
   have q2 := hat 2 _ rfl
   rw [Nat.add_zero, ← hgl] at q0
   rw [← hgl, ← hgs] at q1
   rw [← hgl, show gl + 2 = gi by omega] at q2
   rw [← hgl, ← hgs, ← hgi]
   have HQl := Lib.hid q0
   have HQs := Lib.hid q1
   have HQi := Lib.hid q2
   have HB0 := Lib.hid hbw
   have HGI := Lib.hid (show gi < W.heap.size from blk_lt q2)
   have HGL := Lib.hid (show gl < W.heap.size from blk_lt q0)
   have HGS := Lib.hid (show gs < W.heap.size from blk_lt q1)
   clear hat hbw q0 q1 q2 hgl hgs hgi
   have l0 := blk_cell HQl.out 0 _ rfl
   have l1 := blk_cell HQl.out 1 _ rfl
   have l2 := blk_cell HQl.out 2 _ rfl
   have l3 := blk_cell HQl.out 3 _ rfl
   have i3 := blk_cell HQi.out 3 _ rfl
   go_wp2_with fail
   clear i3
   refine (KC.out _ HB0.out).mono ?_
   rintro e w2 ⟨M, rfl, hx, hsm, hb⟩
   have HB2 := Lib.hid (below_on HB0.out hb)
   have HBW := Lib.hid hb
   have HLX := Lib.hid hx
   have HSM := Lib.hid hsm
   have hm1 : M.se.l.length = n1 := by rw [hsm.se]; exact HNS.out.1
   have hm2 : M.po.l.length = n2 := by rw [hsm.po]; exact HNS.out.2.1
   have hm3 : M.sg.l.length = n3 := by rw [hsm.sg]; exact HNS.out.2.2.1
   have hm4 : M.rt.l.length = n4 := by rw [← HNS.out.2.2.2]; have := congrArg List.length hsm.rt; simpa using this
   obtain ⟨ra, hra⟩ : ∃ a, M.rt.a = a := ⟨_, rfl⟩
   obtain ⟨rc4, hrc⟩ : ∃ a, M.rt.c = a := ⟨_, rfl⟩
   have HRA := Lib.hid (And.intro hra hm4)
   have KM := Lib.hid (KMD.out M hsm)
   rw [slv hm1, slv hm2, slv hm3, slv hm4, hra, hrc] at KM ⊢
   clear hb hx hsm hm1 hm2 hm3 hm4 hra hrc KC KMD l0 l1 l2 l3
   go_upto_region 4 with fail
   have hbx := below1 w2 (.cells #[.slice M.se.a n1 M.se.c, .slice M.po.a n2 M.po.c, .slice M.sg.a n3 M.sg.c, .slice ra n4 rc4] 27)
   have hqx := alloc1 w2 (.cells #[.slice M.se.a n1 M.se.c, .slice M.po.a n2 M.po.c, .slice M.sg.a n3 M.sg.c, .slice ra n4 rc4] 27) (Below.refl _ _)
   obtain ⟨w3, hw3⟩ : ∃ W, W = w2.alloc (.cells #[.slice M.se.a n1 M.se.c, .slice M.po.a n2 M.po.c, .slice M.sg.a n3 M.sg.c, .slice ra n4 rc4] 27) := ⟨_, rfl⟩
   rw [← hw3] at hbx hqx ⊢
   obtain ⟨gw, hgw⟩ : ∃ g, g = w2.heap.size := ⟨_, rfl⟩
   rw [← hgw] at hqx ⊢
   have HX3 := Lib.hid hqx
   have HB3 := Lib.hid (below_on HB2.out hbx)
   have HBX := Lib.hid hbx
   have HGW := Lib.hid hgw
   clear hbx hqx hw3 hgw
   obtain ⟨m0, m1, m2, m3⟩ := k_box HX3.out
   go_wp2_with fail
   clear m0 m1 m2 m3
   refine (KM.out w3 (HLX.out.at_.below HBX.out)).mono ?_
   rintro e w4 ⟨m, Mc, rfl, hMX, ht, hp, hb⟩
   have HB4 := Lib.hid (below_on HB3.out hb)
   have HBX4a := Lib.hid hb
   have HBX4 : Hid (Below w2.heap.size w2 w4) := Lib.hid (below_on HBX.out hb)
   have HM4 := Lib.hid hMX
   have HTB : Hid (Mc.tb = tbL L ∧ TbOk (tbL L) ∧ Mc.pt = pw Mc.li.l.length - 1 ∧ True) := Lib.hid ⟨ht, HTK.out, by rw [hp, show Mc.li.l.length = L.po.l.length from (by rw [← tb_li, ht, tbl_li])], trivial⟩
   have HPN : Hid (∀ y, y ∈ M.rt.l → y.pa.l ≠ []) := Lib.hid (fun y hy => t_pa (t_formed (by rw [(same_all HSM.out).1]; exact HCK.out) y hy))
   obtain ⟨lo, hlo⟩ : ∃ lo, lo = W.heap.size := ⟨_, rfl⟩
   have HLO := Lib.hid hlo
   rw [← hlo] at HLX
   have HOW : Hid (OwI w4 w4 lo gw gw (.cells #[.slice M.se.a n1 M.se.c, .slice M.po.a n2 M.po.c, .slice M.sg.a n3 M.sg.c, .slice ra n4 rc4] 27)) := Lib.hid ⟨blk_keep hb HX3.out, WX.refl _ _, Kin.refl _, fun _ _ _ h => h⟩
   clear hb hMX ht hp hlo
   go_upto_region 8 with fail
   go_loopg [10, 11] n4 (fun g ii _ wr => ∃ k : Nat, k + g = n4 ∧ ii = .int .i64 (k : Int) ∧ OwI w4 wr lo gw gw (.cells #[.slice M.se.a n1 M.se.c, .slice M.po.a n2 M.po.c, .slice M.sg.a n3 M.sg.c, .slice ra n4 rc4] 27))
   case atStart => exact ⟨0, by omega, rfl, HOW.out⟩
   case round =>
    obtain ⟨k, hk, rfl, ho⟩ := hrel
    have HOr := Lib.hid ho
    have HK := Lib.hid hk
    clear ho
    have o3 := blk_cell HOr.out.box 3 _ rfl
    by_cases hlt : k < n4
    ·have d1 : (0 : Int) ≤ k := by omega
     have d2 : (k : Int) < n4 := by omega
     have e5 := k_succ hlt HN4.out
     have HE5 := Lib.hid e5
     have HLT := Lib.hid hlt
     obtain ⟨y, hy⟩ : ∃ y, M.rt.l[k]? = some y := ⟨_, List.getElem?_eq_getElem (by rw [HRA.out.2]; exact hlt)⟩
     obtain ⟨xb, off, hxa, hxb, hc⟩ := SlX.own HLX.out.rt HBX4.out (List.ne_nil_of_length_pos (by rw [HRA.out.2]; omega))
     have HRX := Lib.hid (HLX.out.rn y (List.mem_of_getElem? hy))
     have hpn := HPN.out y (List.mem_of_getElem? hy)
     rw [HRA.out.1] at hxa
     subst hxa
     have Hxb : Hid (lo ≤ xb ∧ xb < gw ∧ ∀ i, w4.frozen? ⟨xb, i, none⟩ = false) := Lib.hid ⟨hxb.1, by rw [HGW.out]; exact hxb.2.1, hxb.2.2⟩
     have z0 := hc k _ hy 0 _ rfl
     have z2 := hc k _ hy 2 _ rfl
     have z3 := hc k _ hy 3 _ rfl
     rw [Nat.add_zero] at z0
     obtain ⟨m1, hm1⟩ : ∃ n, y.pa.l.length = n := ⟨_, rfl⟩
     obtain ⟨m2, hm2⟩ : ∃ n, y.po.l.length = n := ⟨_, rfl⟩
     have h1 : 0 < m1 := by rw [← hm1]; exact List.length_pos_iff.2 hpn
     have HM2 : Hid (m2 ≤ 9223372036854775807) := Lib.hid (by rw [← hm2]; exact HRX.out.po.at_.lenM)
     rw [slv hm1] at z2
     rw [slv hm2] at z3
     obtain ⟨pb, po, hpa, hpb, hpc⟩ := SlX.own HRX.out.pa HBX4.out hpn
     obtain ⟨p0, hp0⟩ : ∃ p, y.pa.l[0]? = some p := ⟨_, List.getElem?_eq_getElem (by rw [hm1]; exact h1)⟩
     have hq : w4.cell? ⟨pb, po, none⟩ = some (.int .i64 p0) := hpc 0 _ hp0 0 _ rfl
     rw [hpa] at z2
     have Hpb : Hid (lo ≤ pb ∧ pb < gw ∧ ∀ i, w4.frozen? ⟨pb, i, none⟩ = false) := Lib.hid ⟨hpb.1, by rw [HGW.out]; exact hpb.2.1, hpb.2.2⟩
     obtain ⟨pc, hpcc⟩ : ∃ c, y.pa.c = c := ⟨_, rfl⟩
     obtain ⟨qa, hqa⟩ : ∃ c, y.po.a = c := ⟨_, rfl⟩
     obtain ⟨qc, hqc⟩ : ∃ c, y.po.c = c := ⟨_, rfl⟩
     rw [hpcc] at z2
     rw [hqa, hqc] at z3
     have HPO := Lib.hid (And.intro hqa hm2)
     have HZ2 := Lib.hid z2
     have HZ3 := Lib.hid z3
     have HP0 := Lib.hid hq
     have HD := Lib.hid (And.intro d1 d2)
     obtain ⟨t0, x0⟩ := HOr.out.str z0
     have x0b : xb < wr.heap.size := by have h1 := Hxb.out.2.1; have h2 := blk_lt HOr.out.box; omega
     have x0f := HOr.out.fz xb Hxb.out.2.1 (off + k * 6) (Hxb.out.2.2 _)
     have HX0 := Lib.hid x0
     have d5 : (0 : Int) < m1 := by omega
     clear hpn hy hxb hc z0 z2 z3 hm1 hm2 h1 hpa hpb hpc hp0 hq hpcc hqa hqc hlt hk
     go_upto_region 11 with fail
     refine name_any ?_
     intro V1 hV1
     have HOV1 : Hid (OwI w4 V1 lo gw gw (.cells #[.slice M.se.a n1 M.se.c, .slice M.po.a n2 M.po.c, .slice M.sg.a n3 M.sg.c, .slice (some ⟨xb, off, none⟩) n4 rc4] 27)) := Lib.hid (by rw [hV1]; exact HOr.out.put (Nat.le_refl _) Hxb.out.1 Hxb.out.2.1 HX0.out (.inr (.inl ⟨_, _, rfl, rfl⟩)))
     clear hV1
     clear o3 x0 x0b x0f
     have o3 := blk_cell HOV1.out.box 3 _ rfl
     have f2 := HOV1.out.sl HZ2.out
     obtain ⟨t1, x1⟩ := HOV1.out.int HP0.out
     have x1b : pb < V1.heap.size := by have h1 := Hpb.out.2.1; have h2 := blk_lt HOV1.out.box; omega
     have x1f := HOV1.out.fz pb Hpb.out.2.1 po (Hpb.out.2.2 _)
     have HX1 := Lib.hid x1
     go_upto_region 12 with fail
     refine name_any ?_
     intro V2 hV2
     have HOV2 : Hid (OwI w4 V2 lo gw gw (.cells #[.slice M.se.a n1 M.se.c, .slice M.po.a n2 M.po.c, .slice M.sg.a n3 M.sg.c, .slice (some ⟨xb, off, none⟩) n4 rc4] 27)) := Lib.hid (by rw [hV2]; exact HOV1.out.put (Nat.le_refl _) Hpb.out.1 Hpb.out.2.1 HX1.out (.inr (.inr (.inl ⟨_, _, _, rfl, rfl⟩))))
     clear hV2
     clear o3 f2 x1 x1b x1f d1 d2 d5
     go_upto_region 13 with fail
     go_loopg [11] m2 (fun g jj wz => ∃ j : Nat, j + g = m2 ∧ jj = .int .i64 (j : Int) ∧ OwI w4 wz lo gw gw (.cells #[.slice M.se.a n1 M.se.c, .slice M.po.a n2 M.po.c, .slice M.sg.a n3 M.sg.c, .slice (some ⟨xb, off, none⟩) n4 rc4] 27))
     case atStart => exact ⟨0, by omega, rfl, HOV2.out⟩
     case round =>
      obtain ⟨j, hj, rfl, ho⟩ := hrel
      have HOq := Lib.hid ho
      have HJ := Lib.hid hj
      clear ho
      have o3 := blk_cell HOq.out.box 3 _ rfl
      have f3 := HOq.out.sl HZ3.out
      have e1 : (0 : Int) ≤ k := HD.out.1
      have e2 : (k : Int) < n4 := HD.out.2
      by_cases hlj : j < m2
      ·have d3 : (0 : Int) ≤ j := by omega
       have d4 : (j : Int) < m2 := by omega
       have e5 := k_succ hlj HM2.out
       have HJT := Lib.hid hlj
       obtain ⟨qb, qo, hqa, hqb, hqc⟩ := SlX.own HRX.out.po HBX4.out (List.ne_nil_of_length_pos (by rw [HPO.out.2]; omega))
       obtain ⟨⟨np, nb⟩, hn⟩ : ∃ n, y.po.l[j]? = some n := ⟨_, List.getElem?_eq_getElem (by rw [HPO.out.2]; exact hlj)⟩
       have hq1 := hqc j _ hn 1 _ rfl
       rw [HPO.out.1] at hqa
       subst hqa
       have Hqb : Hid (lo ≤ qb ∧ qb < gw ∧ ∀ i, w4.frozen? ⟨qb, i, none⟩ = false) := Lib.hid ⟨hqb.1, by rw [HGW.out]; exact hqb.2.1, hqb.2.2⟩
       obtain ⟨t, ht⟩ := HOq.out.bool hq1
       have HT := Lib.hid ht
       have HE := Lib.hid (And.intro d3 d4)
       clear hqb hqc hn hq1 ht hj hlj
       go_upto_region 15 with fail
       clear o3 f3 d3 d4 e1 e2
       refine wp_region_rel (by kernel_rfl) [20] 23 [0, 1, 2, 3, 4, 5, 6, 7, 8, 9, 10, 11, 12, 13, 14, 15, 16, 17, 18, 19] [64, 65, 66, 67, 68, 69, 70, 71, 72, 73, 74, 75, 76, 77, 78, 79, 80, 81, 82, 83] #[true, true, true, true, true, true, true, true, true, true, true, true, true, true, true, true, true, true, true, true, false] 1 [(fun v _ => v = .pointer (some ⟨gw, 3, none⟩)), (fun v _ => v = .slice (some ⟨xb, off, none⟩) n4 rc4), (fun v _ => v = .int .i64 (k : Int)), (fun v _ => v = .pointer (some ⟨xb, off + k * 6, none⟩)), (fun v _ => v = .pointer (some ⟨xb, off + k * 6 + 3, none⟩)), (fun v _ => v = .slice (some ⟨qb, qo, none⟩) m2 qc), (fun v _ => v = .int .i64 (j : Int)), (fun v _ => v = .pointer (some ⟨gw, 3, none⟩)), (fun v _ => v = .slice (some ⟨xb, off, none⟩) n4 rc4), (fun v _ => v = .int .i64 (k : Int)), (fun v _ => v = .pointer (some ⟨xb, off + k * 6, none⟩)), (fun v _ => v = .pointer (some ⟨xb, off + k * 6 + 3, none⟩)), (fun v _ => v = .slice (some ⟨qb, qo, none⟩) m2 qc), (fun v _ => v = .int .i64 (j : Int)), (fun v _ => v = .pointer (some ⟨qb, qo + j * 2, none⟩)), (fun v _ => v = .pointer (some ⟨qb, qo + j * 2 + 1, none⟩)), (fun v _ => v = .bool t), (fun v _ => v = .bool (!t)), (fun v _ => v = .pointer (some ⟨qb, qo + j * 2, none⟩)), (fun v _ => v = .pointer (some ⟨qb, qo + j * 2 + 1, none⟩)), (fun _ _ => True)] (by kernel_rfl) (by kernel_rfl) (by kernel_rfl) (by kernel_rfl) (by kernel_rfl) rfl (by kernel_rfl) rfl ?_ ?_ ?_
       ·exact ⟨stays_is _, stays_is _, stays_is _, stays_is _, stays_is _, stays_is _, stays_is _, stays_is _, stays_is _, stays_is _, stays_is _, stays_is _, stays_is _, stays_is _, stays_is _, stays_is _, stays_is _, stays_is _, stays_is _, stays_is _, stays_true, trivial⟩
       ·refine ⟨?_, ?_, ?_, ?_, ?_, ?_, ?_, ?_, ?_, ?_, ?_, ?_, ?_, ?_, ?_, ?_, ?_, ?_, ?_, ?_, trivial⟩
        ·refine relOb_mk (o := ⟨some 64, _, _, _, _, _⟩) rfl (fun r V hc hf hg hs hb hd => ?_)
         have x7 : r (.tmp 7) = .pointer (some ⟨gw, 0, none⟩) := hs 7 (by kernel_rfl)
         clear hs hd hg
         go_simp
         exact ⟨Below.refl _ _, rfl⟩
        ·refine relOb_mk (o := ⟨some 65, _, _, _, _, _⟩) rfl (fun r V hc hf hg hs hb hd => ?_)
         have h0 : r (.tmp 64) = .pointer (some ⟨gw, 3, none⟩) := hd 0 64 rfl (by kernel_rfl)
         clear hs hd hg
         have l := blk_cell (blk_keep hb HOq.out.box) 3 _ rfl
         go_simp
         exact ⟨Below.refl _ _, rfl⟩
        ·refine relOb_mk (o := ⟨some 66, _, _, _, _, _⟩) rfl (fun r V hc hf hg hs hb hd => ?_)
         have x10 : r (.tmp 10) = .int .i64 (k : Int) := hs 10 (by kernel_rfl)
         clear hs hd hg
         go_simp
         exact ⟨Below.refl _ _, rfl⟩
        ·refine relOb_mk (o := ⟨some 67, _, _, _, _, _⟩) rfl (fun r V hc hf hg hs hb hd => ?_)
         have h1 : r (.tmp 65) = .slice (some ⟨xb, off, none⟩) n4 rc4 := hd 1 65 rfl (by kernel_rfl)
         have h2 : r (.tmp 66) = .int .i64 (k : Int) := hd 2 66 rfl (by kernel_rfl)
         clear hs hd hg
         have e1 := HD.out.1
         have e2 := HD.out.2
         go_simp
         exact ⟨Below.refl _ _, rfl⟩
        ·refine relOb_mk (o := ⟨some 68, _, _, _, _, _⟩) rfl (fun r V hc hf hg hs hb hd => ?_)
         have h3 : r (.tmp 67) = .pointer (some ⟨xb, off + k * 6, none⟩) := hd 3 67 rfl (by kernel_rfl)
         clear hs hd hg
         go_simp
         exact ⟨Below.refl _ _, rfl⟩
        ·refine relOb_mk (o := ⟨some 69, _, _, _, _, _⟩) rfl (fun r V hc hf hg hs hb hd => ?_)
         have h4 : r (.tmp 68) = .pointer (some ⟨xb, off + k * 6 + 3, none⟩) := hd 4 68 rfl (by kernel_rfl)
         clear hs hd hg
         have l := cell_later hb (HOq.out.sl HZ3.out)
         go_simp
         exact ⟨Below.refl _ _, rfl⟩
        ·refine relOb_mk (o := ⟨some 70, _, _, _, _, _⟩) rfl (fun r V hc hf hg hs hb hd => ?_)
         have x11 : r (.tmp 11) = .int .i64 (j : Int) := hs 11 (by kernel_rfl)
         clear hs hd hg
         go_simp
         exact ⟨Below.refl _ _, rfl⟩
        ·refine relOb_mk (o := ⟨some 71, _, _, _, _, _⟩) rfl (fun r V hc hf hg hs hb hd => ?_)
         have x7 : r (.tmp 7) = .pointer (some ⟨gw, 0, none⟩) := hs 7 (by kernel_rfl)
         clear hs hd hg
         go_simp
         exact ⟨Below.refl _ _, rfl⟩
        ·refine relOb_mk (o := ⟨some 72, _, _, _, _, _⟩) rfl (fun r V hc hf hg hs hb hd => ?_)
         have h7 : r (.tmp 71) = .pointer (some ⟨gw, 3, none⟩) := hd 7 71 rfl (by kernel_rfl)
         clear hs hd hg
         have l := blk_cell (blk_keep hb HOq.out.box) 3 _ rfl
         go_simp
         exact ⟨Below.refl _ _, rfl⟩
        ·refine relOb_mk (o := ⟨some 73, _, _, _, _, _⟩) rfl (fun r V hc hf hg hs hb hd => ?_)
         have x10 : r (.tmp 10) = .int .i64 (k : Int) := hs 10 (by kernel_rfl)
         clear hs hd hg
         go_simp
         exact ⟨Below.refl _ _, rfl⟩
        ·refine relOb_mk (o := ⟨some 74, _, _, _, _, _⟩) rfl (fun r V hc hf hg hs hb hd => ?_)
         have h8 : r (.tmp 72) = .slice (some ⟨xb, off, none⟩) n4 rc4 := hd 8 72 rfl (by kernel_rfl)
         have h9 : r (.tmp 73) = .int .i64 (k : Int) := hd 9 73 rfl (by kernel_rfl)
         clear hs hd hg
         have e1 := HD.out.1
         have e2 := HD.out.2
         go_simp
         exact ⟨Below.refl _ _, rfl⟩
        ·refine relOb_mk (o := ⟨some 75, _, _, _, _, _⟩) rfl (fun r V hc hf hg hs hb hd => ?_)
         have h10 : r (.tmp 74) = .pointer (some ⟨xb, off + k * 6, none⟩) := hd 10 74 rfl (by kernel_rfl)
         clear hs hd hg
         go_simp
         exact ⟨Below.refl _ _, rfl⟩
        ·refine relOb_mk (o := ⟨some 76, _, _, _, _, _⟩) rfl (fun r V hc hf hg hs hb hd => ?_)
         have h11 : r (.tmp 75) = .pointer (some ⟨xb, off + k * 6 + 3, none⟩) := hd 11 75 rfl (by kernel_rfl)
         clear hs hd hg
         have l := cell_later hb (HOq.out.sl HZ3.out)
         go_simp
         exact ⟨Below.refl _ _, rfl⟩
        ·refine relOb_mk (o := ⟨some 77, _, _, _, _, _⟩) rfl (fun r V hc hf hg hs hb hd => ?_)
         have x11 : r (.tmp 11) = .int .i64 (j : Int) := hs 11 (by kernel_rfl)
         clear hs hd hg
         go_simp
         exact ⟨Below.refl _ _, rfl⟩
        ·refine relOb_mk (o := ⟨some 78, _, _, _, _, _⟩) rfl (fun r V hc hf hg hs hb hd => ?_)
         have h12 : r (.tmp 76) = .slice (some ⟨qb, qo, none⟩) m2 qc := hd 12 76 rfl (by kernel_rfl)
         have h13 : r (.tmp 77) = .int .i64 (j : Int) := hd 13 77 rfl (by kernel_rfl)
         clear hs hd hg
         have e1 := HE.out.1
         have e2 := HE.out.2
         go_simp
         exact ⟨Below.refl _ _, rfl⟩
        ·refine relOb_mk (o := ⟨some 79, _, _, _, _, _⟩) rfl (fun r V hc hf hg hs hb hd => ?_)
         have h14 : r (.tmp 78) = .pointer (some ⟨qb, qo + j * 2, none⟩) := hd 14 78 rfl (by kernel_rfl)
         clear hs hd hg
         go_simp
         exact ⟨Below.refl _ _, rfl⟩
        ·refine relOb_mk (o := ⟨some 80, _, _, _, _, _⟩) rfl (fun r V hc hf hg hs hb hd => ?_)
         have h15 : r (.tmp 79) = .pointer (some ⟨qb, qo + j * 2 + 1, none⟩) := hd 15 79 rfl (by kernel_rfl)
         clear hs hd hg
         have l := cell_later hb HT.out
         go_simp
         exact ⟨Below.refl _ _, rfl⟩
        ·refine relOb_mk (o := ⟨some 81, _, _, _, _, _⟩) rfl (fun r V hc hf hg hs hb hd => ?_)
         have h16 : r (.tmp 80) = .bool t := hd 16 80 rfl (by kernel_rfl)
         clear hs hd hg
         go_simp
         exact ⟨Below.refl _ _, rfl⟩
        ·refine relOb_mk (o := ⟨some 82, _, _, _, _, _⟩) rfl (fun r V hc hf hg hs hb hd => ?_)
         have h5 : r (.tmp 69) = .slice (some ⟨qb, qo, none⟩) m2 qc := hd 5 69 rfl (by kernel_rfl)
         have h6 : r (.tmp 70) = .int .i64 (j : Int) := hd 6 70 rfl (by kernel_rfl)
         clear hs hd hg
         have e1 := HE.out.1
         have e2 := HE.out.2
         go_simp
         exact ⟨Below.refl _ _, rfl⟩
        ·refine relOb_mk (o := ⟨some 83, _, _, _, _, _⟩) rfl (fun r V hc hf hg hs hb hd => ?_)
         have h18 : r (.tmp 82) = .pointer (some ⟨qb, qo + j * 2, none⟩) := hd 18 82 rfl (by kernel_rfl)
         clear hs hd hg
         go_simp
         exact ⟨Below.refl _ _, rfl⟩
       ·intro a V hb hx
        have h0 : a.eval (.tmp 64) = .pointer (some ⟨gw, 3, none⟩) := hx 0 64 rfl rfl
        have h1 : a.eval (.tmp 65) = .slice (some ⟨xb, off, none⟩) n4 rc4 := hx 1 65 rfl rfl
        have h2 : a.eval (.tmp 66) = .int .i64 (k : Int) := hx 2 66 rfl rfl
        have h3 : a.eval (.tmp 67) = .pointer (some ⟨xb, off + k * 6, none⟩) := hx 3 67 rfl rfl
        have h4 : a.eval (.tmp 68) = .pointer (some ⟨xb, off + k * 6 + 3, none⟩) := hx 4 68 rfl rfl
        have h5 : a.eval (.tmp 69) = .slice (some ⟨qb, qo, none⟩) m2 qc := hx 5 69 rfl rfl
        have h6 : a.eval (.tmp 70) = .int .i64 (j : Int) := hx 6 70 rfl rfl
        have h7 : a.eval (.tmp 71) = .pointer (some ⟨gw, 3, none⟩) := hx 7 71 rfl rfl
        have h8 : a.eval (.tmp 72) = .slice (some ⟨xb, off, none⟩) n4 rc4 := hx 8 72 rfl rfl
        have h9 : a.eval (.tmp 73) = .int .i64 (k : Int) := hx 9 73 rfl rfl
        have h10 : a.eval (.tmp 74) = .pointer (some ⟨xb, off + k * 6, none⟩) := hx 10 74 rfl rfl
        have h11 : a.eval (.tmp 75) = .pointer (some ⟨xb, off + k * 6 + 3, none⟩) := hx 11 75 rfl rfl
        have h12 : a.eval (.tmp 76) = .slice (some ⟨qb, qo, none⟩) m2 qc := hx 12 76 rfl rfl
        have h13 : a.eval (.tmp 77) = .int .i64 (j : Int) := hx 13 77 rfl rfl
        have h14 : a.eval (.tmp 78) = .pointer (some ⟨qb, qo + j * 2, none⟩) := hx 14 78 rfl rfl
        have h15 : a.eval (.tmp 79) = .pointer (some ⟨qb, qo + j * 2 + 1, none⟩) := hx 15 79 rfl rfl
        have h16 : a.eval (.tmp 80) = .bool t := hx 16 80 rfl rfl
        have h17 : a.eval (.tmp 81) = .bool (!t) := hx 17 81 rfl rfl
        have h18 : a.eval (.tmp 82) = .pointer (some ⟨qb, qo + j * 2, none⟩) := hx 18 82 rfl rfl
        have h19 : a.eval (.tmp 83) = .pointer (some ⟨qb, qo + j * 2 + 1, none⟩) := hx 19 83 rfl rfl
        unfold fillAll
        simp only [List.foldl_cons, List.foldl_nil, h0, h1, h2, h3, h4, h5, h6, h7, h8, h9, h10, h11, h12, h13, h14, h15, h16, h17, h18, h19, Act.put, List.setIfInBounds_toArray, List.set_cons_zero, List.set_cons_succ]
        clear h0 h1 h2 h3 h4 h5 h6 h7 h8 h9 h10 h11 h12 h13 h14 h15 h16 h17 h18 h19 hx
        have HOv := Lib.hid (HOq.out.below (Nat.le_refl _) hb)
        have HTv := Lib.hid (cell_later hb HT.out)
        clear hb
        refine wpAny_ready (rs := [20]) (by kernel_rfl) (by simp) (AllReady.cons (o := ⟨none, _, _, _, _, _⟩) rfl (fun K hK => ?_) AllReady.nil)
        have c0 := HTv.out
        have f0 : ∀ i, V.frozen? ⟨qb, i, none⟩ = false := fun i => HOv.out.fz qb Hqb.out.2.1 i (Hqb.out.2.2 i)
        have hlb : qb < V.heap.size := by have h1 := Hqb.out.2.1; have h2 := blk_lt HOv.out.box; omega
        go_simp
        clear c0 f0 hlb
        refine name_K ?_
        intro VZ hVZ
        have HOz : Hid (OwI w4 VZ lo gw gw (.cells #[.slice M.se.a n1 M.se.c, .slice M.po.a n2 M.po.c, .slice M.sg.a n3 M.sg.c, .slice (some ⟨xb, off, none⟩) n4 rc4] 27)) := Lib.hid (by rw [hVZ]; exact HOv.out.put (Nat.le_refl _) Hqb.out.1 Hqb.out.2.1 HTv.out (.inr (.inr (.inr ⟨_, _, rfl, rfl⟩))))
        clear hVZ
        refine hK _ _ ?_
        clear hK K
        refine wpAny_done (by kernel_rfl) ?_ _
        go_wp2_with fail
        go_roundg (m2 - (j + 1))
        case rel => exact ⟨j + 1, by have := HJ.out; have := HJT.out; omega, by go_num, HOz.out⟩
        case measure => have := HJ.out; have := HJT.out; omega
      ·have d4 : ¬ (j : Int) < m2 := by omega
       clear hj hlj
       go_wp2_with fail
       clear o3 f3 e1 e2 d4
       go_roundg (n4 - (k + 1))
       case rel => exact ⟨k + 1, by have := HK.out; have := HLT.out; omega, by go_num, HOq.out⟩
       case measure => have := HK.out; have := HLT.out; omega
    ·have d1 : (0 : Int) ≤ k := by omega
     have d2 : ¬ (k : Int) < n4 := by omega
     clear hk hlt
     go_upto_region 16 with fail
     clear o3
     have HWr : Hid (Below W.heap.size W wr) := Lib.hid (WX.below (below_on HBW.out (below_on HBX.out HBX4a.out)) HOr.out.wx (fun b hb => by have := HLO.out; omega))
     have HLr := Lib.hid (blk_keep HWr.out HQl.out)
     have HSr := Lib.hid (blk_keep HWr.out HQs.out)
     have HIr := Lib.hid (blk_keep HWr.out HQi.out)
     have HBr := Lib.hid (below_on HB0.out HWr.out)
     have HMr : Hid (MachX (fun b => b < w3.heap.size) wr m Mc) := Lib.hid (HM4.out.step (HOr.out.wx.mono (fun b hb => by have := blk_lt HX3.out; omega)))
     have HSRC : Hid (SrcAt wr ia ic (l.flatMap cmdC)) := Lib.hid (src_sl cmd_lenC cmd_one (cmds_sl (HCM.out.below HBr.out) (by rw [HLN.out.1]; exact HLN.out.2.1) HLN.out.2.2.1 HLN.out.2.2.2))
     obtain ⟨inf, hi, hz0, hz1, hz2⟩ := info_parts info_cmd
     have HI9 := Lib.hid (And.intro hi (And.intro hz0 (And.intro hz1 hz2)))
     clear hi hz0 hz1 hz2 d1 d2
     have i3 := blk_cell HIr.out 3 _ rfl
     go_upto_region 18 with (at_builtin; refine wpList_append_src rfl _ _ 33 rfl wr.heap.size 74 inf (.agg #[.int .u8 0, .int .i64 0]) 2 16 Try.underlying33 HI9.out.1 HI9.out.2.1 HI9.out.2.2.1 HI9.out.2.2.2 rfl (by decide) (.slice none 0 0) 0 [] rfl (World.ownsRow_nil _ _ _ _) ia il ic (l.flatMap cmdC) rfl (by rw [flat_len cmd_lenC, HLN.out.1]) HSRC.out (by have := H100.out; unfold maxLen; omega) (by have := H100.out; omega) (Nat.le_refl _) ?_; intro v9 w5 hown9 hg9; rw [List.nil_append, Nat.zero_add] at hown9; obtain ⟨a9, c9, rfl, hr9⟩ := own_sl cmd_lenC HLN.out.1 hown9; have hB9 : Below wr.heap.size wr w5 := (Below.refl _ wr).grown hg9 (Nat.le_refl _) (fun k hk => by cases hk); have HROW := Lib.hid (sl_cmds hr9 HCM.out.1); have HB9 := Lib.hid hB9; clear hown9 hg9 hr9 hB9)
     have HB5 := Lib.hid (below_on HBr.out HB9.out)
     have HCL5 := Lib.hid (blk_keep HB9.out HLr.out)
     have HCS5 := Lib.hid (blk_keep HB9.out HSr.out)
     have HCI5 := Lib.hid (blk_keep HB9.out HIr.out)
     have HM5 := Lib.hid (Below.refl w5.heap.size w5)
     have HMM := Lib.hid (mach_low (HMr.out.step (WX.of_below HB9.out)))
     have KST : Hid (∀ V, Below w5.heap.size w5 V → Calls Try.prog 11 #[.pointer (some ⟨m, 0, none⟩), .agg (stL s).toArray, .agg #[.int .u64 (oc : Int), .int .u32 (no : Int), .int .u32 (re : Int), .slice ia il ic]] V fun e w' => e = .returned (.tuple #[.agg (stL NS).toArray, .agg #[.int .u64 (OP : Int), .int .u32 (PT : Int)]]) ∧ Below V.heap.size V w') := Lib.hid (fun V hV => by
      have h := mstep HMM.out hV (HTB.out.1 ▸ HTB.out.2.1) (HTB.out.2.2.1) s HSO.out oc no re HOC.out.1 HOC.out.2.1 HOC.out.2.2 ia il ic l (HCM.out.below (below_on HB5.out hV)) HLN.out.1 HLN.out.2.1 (by have := H100.out; omega)
      rw [HTB.out.1, HNSO.out.1, HNSO.out.2.1, HNSO.out.2.2] at h
      exact h)
     have KSC : Hid (∀ V, Below w5.heap.size w5 V → Calls Try.prog 13 #[.slice a9 il c9, .slice ia il ic] V fun e w' => e = .returned (.bool true) ∧ Below V.heap.size V w') := Lib.hid (fun V hV => by
      have h := samecmds_any a9 ia l l il il c9 ic V HLN.out.1 HLN.out.1 (by have := H100.out; omega) (by have := H100.out; omega) (HROW.out.below hV) (HCM.out.below (below_on HB5.out hV))
      rw [show decide (l = l) = true by simp] at h
      exact h)
     clear i3 HB9 HLr HSr HIr HBr HMr HSRC HOr HWr
     have HLD := Lib.hid (load_st HCS5.out)
     have l0 := blk_cell HCL5.out 0 _ rfl
     have l1 := blk_cell HCL5.out 1 _ rfl
     have l2 := blk_cell HCL5.out 2 _ rfl
     have l3 := blk_cell HCL5.out 3 _ rfl
     have i0 := blk_cell HCI5.out 0 _ rfl
     have i1 := blk_cell HCI5.out 1 _ rfl
     have i2 := blk_cell HCI5.out 2 _ rfl
     have i3 := blk_cell HCI5.out 3 _ rfl
     go_wp2_with (first
      | ((with_reducible refine wpList_load_is (op := ⟨some 90, _, _, _, _, _⟩) rfl 32 _ rfl _ _ ?_ HLD.out ?_); (· rfl)))
     refine (KST.out _ HM5.out).mono ?_
     rintro e w6 ⟨rfl, hb⟩
     have HB6 := Lib.hid (below_on HB5.out hb)
     have HM6 := Lib.hid (below_on HM5.out hb)
     have HCL6 := Lib.hid (blk_keep hb HCL5.out)
     have HCS6 := Lib.hid (blk_keep hb HCS5.out)
     have HCI6 := Lib.hid (blk_keep hb HCI5.out)
     clear hb l0 l1 l2 l3 i0 i1 i2 i3 HLD
     have ha6 := alloc1 w6 (.cells (stL zS).toArray 32) (Below.refl _ _)
     have hb6 := alloc1 (w6.alloc (.cells (stL zS).toArray 32)) (.cells #[.int .u64 0, .int .u32 0] 48) (Below.refl _ _)
     rw [alloc_size] at hb6
     have hc6 := blk_keep (below1 (w6.alloc (.cells (stL zS).toArray 32)) (.cells #[.int .u64 0, .int .u32 0] 48)) ha6
     have hk6 : Below w6.heap.size w6 ((w6.alloc (.cells (stL zS).toArray 32)).alloc (.cells #[.int .u64 0, .int .u32 0] 48)) := below_on (below1 _ _) (below1 _ _)
     obtain ⟨hst, hq9, ho9⟩ := store_st (s' := NS) hc6
     have HST := Lib.hid hst
     have HS6 := Lib.hid hq9
     have HO6 := Lib.hid (Only.keep ho9 (by omega) hb6)
     have HKK6 : Hid (Below w6.heap.size w6 (((w6.alloc (.cells (stL zS).toArray 32)).alloc (.cells #[.int .u64 0, .int .u32 0] 48)).setCells w6.heap.size 0 (stL NS))) := Lib.hid (Only.below hk6 (Nat.le_refl _) hk6.size ho9)
     obtain ⟨V6, hV6⟩ : ∃ V', V' = ((w6.alloc (.cells (stL zS).toArray 32)).alloc (.cells #[.int .u64 0, .int .u32 0] 48)).setCells w6.heap.size 0 (stL NS) := ⟨_, rfl⟩
     rw [← hV6] at HST HS6 HO6 HKK6
     clear ha6 hb6 hc6 hk6 hst hq9 ho9 hV6
     have c0 := blk_cell HO6.out 0 _ rfl
     have c1 := blk_cell HO6.out 1 _ rfl
     have f0 := blk_free HO6.out 0
     have f1 := blk_free HO6.out 1
     have hl := blk_lt HO6.out
     go_upto_region 19 with (first
      | rw [zero_st]
      | ((with_reducible refine wpList_store_is (op := ⟨none, .store 32 _ _, _, _, _, _⟩) rfl 32 _ _ rfl _ _ ?_ ?_ _ HST.out ?_); (· rfl); (· rfl)))
     clear c0 c1 f0 f1 hl
     refine name_any ?_
     intro X6 hX6
     have ho : Only (w6.heap.size + 1) V6 X6 := by rw [hX6]; exact ((Only.refl (w6.heap.size + 1) V6).setCell rfl _).setCell rfl _
     have HOx6 : Hid (X6.heap[w6.heap.size + 1]? = some (.cells #[.int .u64 (OP : Int), .int .u32 (PT : Int)] 48)) := Lib.hid (by rw [hX6]; exact blk_set (blk_set HO6.out 0 _) 1 _)
     have HSx6 := Lib.hid (Only.keep ho (by omega) HS6.out)
     have HK6 : Hid (Below w6.heap.size w6 X6) := Lib.hid (Only.below HKK6.out (by omega) HKK6.out.size ho)
     have HBx6 := Lib.hid (below_on HB6.out HK6.out)
     have HMx6 := Lib.hid (below_on HM6.out HK6.out)
     have HCLx6 := Lib.hid (blk_keep HK6.out HCL6.out)
     have HCSx6 := Lib.hid (blk_keep HK6.out HCS6.out)
     have HCIx6 := Lib.hid (blk_keep HK6.out HCI6.out)
     obtain ⟨ga6, hga6⟩ : ∃ g, g = w6.heap.size := ⟨_, rfl⟩
     obtain ⟨gb6, hgb6⟩ : ∃ g, g = ga6 + 1 := ⟨_, rfl⟩
     rw [← hga6] at HSx6 HOx6 ⊢
     rw [← hgb6] at HOx6 ⊢
     have HT6x6 := HSx6
     have HU6x6 := HOx6
     clear HSx6 HOx6
     clear hX6 ho hga6 hgb6 HST HS6 HO6 HKK6 HK6 HB6 HM6 HCL6 HCS6 HCI6
     have HLD := Lib.hid (load_st HCSx6.out)
     have l0 := blk_cell HCLx6.out 0 _ rfl
     have l1 := blk_cell HCLx6.out 1 _ rfl
     have l2 := blk_cell HCLx6.out 2 _ rfl
     have l3 := blk_cell HCLx6.out 3 _ rfl
     have i0 := blk_cell HCIx6.out 0 _ rfl
     have i1 := blk_cell HCIx6.out 1 _ rfl
     have i2 := blk_cell HCIx6.out 2 _ rfl
     have i3 := blk_cell HCIx6.out 3 _ rfl
     go_wp2_with (first
      | ((with_reducible refine wpList_load_is (op := ⟨some 97, _, _, _, _, _⟩) rfl 32 _ rfl _ _ ?_ HLD.out ?_); (· rfl)))
     refine (KDS.out _ HBx6.out).mono ?_
     rintro e w7 ⟨rfl, hb⟩
     have HB7 := Lib.hid (below_on HBx6.out hb)
     have HM7 := Lib.hid (below_on HMx6.out hb)
     have HCL7 := Lib.hid (blk_keep hb HCLx6.out)
     have HCS7 := Lib.hid (blk_keep hb HCSx6.out)
     have HCI7 := Lib.hid (blk_keep hb HCIx6.out)
     have HT67 := Lib.hid (blk_keep hb HT6x6.out)
     have HU67 := Lib.hid (blk_keep hb HU6x6.out)
     clear hb l0 l1 l2 l3 i0 i1 i2 i3 HLD
     have ha7 := alloc1 w7 (.cells (stL zS).toArray 32) (Below.refl _ _)
     have hb7 := alloc1 (w7.alloc (.cells (stL zS).toArray 32)) (.cells #[.int .u64 0, .int .u32 0] 48) (Below.refl _ _)
     rw [alloc_size] at hb7
     have hc7 := blk_keep (below1 (w7.alloc (.cells (stL zS).toArray 32)) (.cells #[.int .u64 0, .int .u32 0] 48)) ha7
     have hk7 : Below w7.heap.size w7 ((w7.alloc (.cells (stL zS).toArray 32)).alloc (.cells #[.int .u64 0, .int .u32 0] 48)) := below_on (below1 _ _) (below1 _ _)
     obtain ⟨hst, hq9, ho9⟩ := store_st (s' := NS) hc7
     have HST := Lib.hid hst
     have HS7 := Lib.hid hq9
     have HO7 := Lib.hid (Only.keep ho9 (by omega) hb7)
     have HKK7 : Hid (Below w7.heap.size w7 (((w7.alloc (.cells (stL zS).toArray 32)).alloc (.cells #[.int .u64 0, .int .u32 0] 48)).setCells w7.heap.size 0 (stL NS))) := Lib.hid (Only.below hk7 (Nat.le_refl _) hk7.size ho9)
     obtain ⟨V7, hV7⟩ : ∃ V', V' = ((w7.alloc (.cells (stL zS).toArray 32)).alloc (.cells #[.int .u64 0, .int .u32 0] 48)).setCells w7.heap.size 0 (stL NS) := ⟨_, rfl⟩
     rw [← hV7] at HST HS7 HO7 HKK7
     clear ha7 hb7 hc7 hk7 hst hq9 ho9 hV7
     have c0 := blk_cell HO7.out 0 _ rfl
     have c1 := blk_cell HO7.out 1 _ rfl
     have f0 := blk_free HO7.out 0
     have f1 := blk_free HO7.out 1
     have hl := blk_lt HO7.out
     go_upto_region 20 with (first
      | rw [zero_st]
      | ((with_reducible refine wpList_store_is (op := ⟨none, .store 32 _ _, _, _, _, _⟩) rfl 32 _ _ rfl _ _ ?_ ?_ _ HST.out ?_); (· rfl); (· rfl)))
     clear c0 c1 f0 f1 hl
     refine name_any ?_
     intro X7 hX7
     have ho : Only (w7.heap.size + 1) V7 X7 := by rw [hX7]; exact ((Only.refl (w7.heap.size + 1) V7).setCell rfl _).setCell rfl _
     have HOx7 : Hid (X7.heap[w7.heap.size + 1]? = some (.cells #[.int .u64 (OP : Int), .int .u32 (PT : Int)] 48)) := Lib.hid (by rw [hX7]; exact blk_set (blk_set HO7.out 0 _) 1 _)
     have HSx7 := Lib.hid (Only.keep ho (by omega) HS7.out)
     have HK7 : Hid (Below w7.heap.size w7 X7) := Lib.hid (Only.below HKK7.out (by omega) HKK7.out.size ho)
     have HBx7 := Lib.hid (below_on HB7.out HK7.out)
     have HMx7 := Lib.hid (below_on HM7.out HK7.out)
     have HCLx7 := Lib.hid (blk_keep HK7.out HCL7.out)
     have HCSx7 := Lib.hid (blk_keep HK7.out HCS7.out)
     have HCIx7 := Lib.hid (blk_keep HK7.out HCI7.out)
     have HT6x7 := Lib.hid (blk_keep HK7.out HT67.out)
     have HU6x7 := Lib.hid (blk_keep HK7.out HU67.out)
     obtain ⟨ga7, hga7⟩ : ∃ g, g = w7.heap.size := ⟨_, rfl⟩
     obtain ⟨gb7, hgb7⟩ : ∃ g, g = ga7 + 1 := ⟨_, rfl⟩
     rw [← hga7] at HSx7 HOx7 ⊢
     rw [← hgb7] at HOx7 ⊢
     have HT7x7 := HSx7
     have HU7x7 := HOx7
     clear HSx7 HOx7
     clear hX7 ho hga7 hgb7 HST HS7 HO7 HKK7 HK7 HB7 HM7 HCL7 HCS7 HCI7 HT67 HU67
     have HLD := Lib.hid (load_st HCSx7.out)
     have l0 := blk_cell HCLx7.out 0 _ rfl
     have l1 := blk_cell HCLx7.out 1 _ rfl
     have l2 := blk_cell HCLx7.out 2 _ rfl
     have l3 := blk_cell HCLx7.out 3 _ rfl
     have i0 := blk_cell HCIx7.out 0 _ rfl
     have i1 := blk_cell HCIx7.out 1 _ rfl
     have i2 := blk_cell HCIx7.out 2 _ rfl
     have i3 := blk_cell HCIx7.out 3 _ rfl
     go_wp2_with (first
      | ((with_reducible refine wpList_load_is (op := ⟨some 104, _, _, _, _, _⟩) rfl 32 _ rfl _ _ ?_ HLD.out ?_); (· rfl)))
     refine (KST.out _ HMx7.out).mono ?_
     rintro e w8 ⟨rfl, hb⟩
     have HB8 := Lib.hid (below_on HBx7.out hb)
     have HM8 := Lib.hid (below_on HMx7.out hb)
     have HCL8 := Lib.hid (blk_keep hb HCLx7.out)
     have HCS8 := Lib.hid (blk_keep hb HCSx7.out)
     have HCI8 := Lib.hid (blk_keep hb HCIx7.out)
     have HT68 := Lib.hid (blk_keep hb HT6x7.out)
     have HU68 := Lib.hid (blk_keep hb HU6x7.out)
     have HT78 := Lib.hid (blk_keep hb HT7x7.out)
     have HU78 := Lib.hid (blk_keep hb HU7x7.out)
     clear hb l0 l1 l2 l3 i0 i1 i2 i3 HLD
     have ha8 := alloc1 w8 (.cells (stL zS).toArray 32) (Below.refl _ _)
     have hb8 := alloc1 (w8.alloc (.cells (stL zS).toArray 32)) (.cells #[.int .u64 0, .int .u32 0] 48) (Below.refl _ _)
     rw [alloc_size] at hb8
     have hc8 := blk_keep (below1 (w8.alloc (.cells (stL zS).toArray 32)) (.cells #[.int .u64 0, .int .u32 0] 48)) ha8
     have hk8 : Below w8.heap.size w8 ((w8.alloc (.cells (stL zS).toArray 32)).alloc (.cells #[.int .u64 0, .int .u32 0] 48)) := below_on (below1 _ _) (below1 _ _)
     obtain ⟨hst, hq9, ho9⟩ := store_st (s' := NS) hc8
     have HST := Lib.hid hst
     have HS8 := Lib.hid hq9
     have HO8 := Lib.hid (Only.keep ho9 (by omega) hb8)
     have HKK8 : Hid (Below w8.heap.size w8 (((w8.alloc (.cells (stL zS).toArray 32)).alloc (.cells #[.int .u64 0, .int .u32 0] 48)).setCells w8.heap.size 0 (stL NS))) := Lib.hid (Only.below hk8 (Nat.le_refl _) hk8.size ho9)
     obtain ⟨V8, hV8⟩ : ∃ V', V' = ((w8.alloc (.cells (stL zS).toArray 32)).alloc (.cells #[.int .u64 0, .int .u32 0] 48)).setCells w8.heap.size 0 (stL NS) := ⟨_, rfl⟩
     rw [← hV8] at HST HS8 HO8 HKK8
     clear ha8 hb8 hc8 hk8 hst hq9 ho9 hV8
     have c0 := blk_cell HO8.out 0 _ rfl
     have c1 := blk_cell HO8.out 1 _ rfl
     have f0 := blk_free HO8.out 0
     have f1 := blk_free HO8.out 1
     have hl := blk_lt HO8.out
     go_upto_region 21 with (first
      | rw [zero_st]
      | ((with_reducible refine wpList_store_is (op := ⟨none, .store 32 _ _, _, _, _, _⟩) rfl 32 _ _ rfl _ _ ?_ ?_ _ HST.out ?_); (· rfl); (· rfl)))
     clear c0 c1 f0 f1 hl
     refine name_any ?_
     intro X8 hX8
     have ho : Only (w8.heap.size + 1) V8 X8 := by rw [hX8]; exact ((Only.refl (w8.heap.size + 1) V8).setCell rfl _).setCell rfl _
     have HOx8 : Hid (X8.heap[w8.heap.size + 1]? = some (.cells #[.int .u64 (OP : Int), .int .u32 (PT : Int)] 48)) := Lib.hid (by rw [hX8]; exact blk_set (blk_set HO8.out 0 _) 1 _)
     have HSx8 := Lib.hid (Only.keep ho (by omega) HS8.out)
     have HK8 : Hid (Below w8.heap.size w8 X8) := Lib.hid (Only.below HKK8.out (by omega) HKK8.out.size ho)
     have HBx8 := Lib.hid (below_on HB8.out HK8.out)
     have HMx8 := Lib.hid (below_on HM8.out HK8.out)
     have HCLx8 := Lib.hid (blk_keep HK8.out HCL8.out)
     have HCSx8 := Lib.hid (blk_keep HK8.out HCS8.out)
     have HCIx8 := Lib.hid (blk_keep HK8.out HCI8.out)
     have HT6x8 := Lib.hid (blk_keep HK8.out HT68.out)
     have HU6x8 := Lib.hid (blk_keep HK8.out HU68.out)
     have HT7x8 := Lib.hid (blk_keep HK8.out HT78.out)
     have HU7x8 := Lib.hid (blk_keep HK8.out HU78.out)
     obtain ⟨ga8, hga8⟩ : ∃ g, g = w8.heap.size := ⟨_, rfl⟩
     obtain ⟨gb8, hgb8⟩ : ∃ g, g = ga8 + 1 := ⟨_, rfl⟩
     rw [← hga8] at HSx8 HOx8 ⊢
     rw [← hgb8] at HOx8 ⊢
     have HT8x8 := HSx8
     have HU8x8 := HOx8
     clear HSx8 HOx8
     clear hX8 ho hga8 hgb8 HST HS8 HO8 HKK8 HK8 HB8 HM8 HCL8 HCS8 HCI8 HT68 HU68 HT78 HU78
     have HLA := Lib.hid (load_st HT6x8.out)
     have HLB := Lib.hid (load_st HT7x8.out)
     have HLC := Lib.hid (load_st HT8x8.out)
     have u0 := blk_cell HU6x8.out 0 _ rfl
     have u1 := blk_cell HU6x8.out 1 _ rfl
     have v0 := blk_cell HU7x8.out 0 _ rfl
     have v1 := blk_cell HU7x8.out 1 _ rfl
     have x0 := blk_cell HU8x8.out 0 _ rfl
     have x1 := blk_cell HU8x8.out 1 _ rfl
     have i3 := blk_cell HCIx8.out 3 _ rfl
     have ez := eq_self NS
     have eo := fun w => eq_out w (OP : Int) (PT : Int)
     go_wp2_with (first
      | ((with_reducible refine wpList_load_is (op := ⟨some 109, _, _, _, _, _⟩) rfl 32 _ rfl _ _ ?_ HLA.out ?_); (· rfl))
      | ((with_reducible refine wpList_load_is (op := ⟨some 110, _, _, _, _, _⟩) rfl 32 _ rfl _ _ ?_ HLB.out ?_); (· rfl))
      | ((with_reducible refine wpList_load_if (op := ⟨some 118, _, _, _, _, _⟩) ?_ 32 _ rfl _ _ ?_ HLC.out ?_); (· rfl); (· rfl))
      | ((with_reducible refine wpList_load_if (op := ⟨some 119, _, _, _, _, _⟩) ?_ 32 _ rfl _ _ ?_ HLB.out ?_); (· rfl); (· rfl)))
     refine (KSC.out _ HMx8.out).mono ?_
     rintro e w9 ⟨rfl, hb⟩
     have HB9 := Lib.hid (below_on HBx8.out hb)
     clear hb u0 u1 v0 v1 x0 x1 i3 HLA HLB HLC
     go_wp2_with fail
     refine (works_is _).mono ?_
     rintro e w10 ⟨rfl, hb⟩
     have HBE := Lib.hid (below_on HB9.out hb)
     clear hb
     go_wp2_with fail
     go_ret
     exact ⟨rfl, HBE.out⟩
theorem walk_IlxaStep (v0 v1 v2 : Array Value) (w : World) (_s0 : v0.size = Try.prog.cellsOf 27) (w0 : RdZ Try.prog w 27 v0.toList) (_s1 : v1.size = Try.prog.cellsOf 32) (w1 : RdZ Try.prog w 32 v1.toList) (_s2 : v2.size = Try.prog.cellsOf 35) (w2 : RdZ Try.prog w 35 v2.toList) :
 Calls Try.prog 3 #[.agg v0, .agg v1, .agg v2] w fun e w' => e = .returned (.bool true) ∧ Below w.heap.size w w' := by
 obtain ⟨L, hv, hL, hz⟩ := layz_of w0
 obtain rfl : v0 = #[L.se.v, L.po.v, L.sg.v, L.rt.v] := by apply Array.toList_inj.1; rw [hv]
 obtain ⟨s, rfl, hs⟩ := state_rd w1.rd
 obtain ⟨oc, no, re, ia, il, ic, l, rfl, ho, hno, hre, hln, _, hcm, hnil, hic, hcap⟩ := input_of w2.rd
 exact ilxaStep_is L hz s oc no re ia il ic l w hL hs ho hno hre hcm hln hic hcap hnil
end Go.Proofs.Ytjienmjpfklgeaa
