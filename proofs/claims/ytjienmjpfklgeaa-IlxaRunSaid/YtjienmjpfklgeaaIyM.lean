/-
 Layer 10: IlxaRun.
-/
import Derived.Test.YtjienmjpfklgeaaIyK
import Derived.Test.YtjienmjpfklgeaaIyL
import Derived.Test.YtjienmjpfklgeaaRelT
namespace Go.Proofs.Ytjienmjpfklgeaa
open Go.RowKit
set_option maxRecDepth 100000
section
variable {P : Program}
theorem rel_load {r : Operand → Value} {w : World} {F : Value → World → Prop} {o : Oper} (ty : TypeId) (x : Operand) (ho : o.op = .load ty x) (vx v : Value) (hx : r x = vx) (hr : (Instr.loadAt ty vx).run P w = .ok v w) (h : F v w) : relUpon P w F ((execOp r o).run P w) := by
 unfold execOp
 simp only [ho, hx, Sem.run_bind, hr, Result.andThen_ok, Sem.run_pure]
 exact ⟨Below.refl _ _, h⟩
theorem wp_store_is {w : World} {o : Oper} {a : Act} {K : Act → World → Prop} {Q : Exit → Act → World → Prop} (ty : TypeId) (x y : Operand) (ho : o.op = .store ty x y) (vx vy : Value) (hx : a.eval x = vx) (hy : a.eval y = vy) (w' : World) (hr : (Instr.storeAt ty vx vy).run P w = .ok () w') (h : K (a.put o.dst undef) w') : o.wp P a w K Q := by
 unfold Oper.wp execOp
 simp only [ho, hx, hy, Sem.run_bind, hr, Result.andThen_ok, Sem.run_pure]
 exact h
theorem ne_cells {w : World} {g h : Nat} {a b : Array Value} {s t : TypeId} {f k : Nat × Nat} (h1 : w.heap[g]? = some (.cells a s f)) (h2 : w.heap[h]? = some (.cells b t k)) (hs : a.size ≠ b.size) : g ≠ h := by
 rintro rfl
 rw [h1] at h2
 cases h2
 exact hs rfl
theorem st_size (s : St) : (stL s).toArray.size = 68 := by rw [List.size_toArray, st_len]
end
theorem alloc_st (w : World) : (w.alloc (.cells (stL zS).toArray 32)).heap[w.heap.size]? = some (.cells (stL zS).toArray 32) := alloc1 w _ (Below.refl _ _)
theorem rg_zero0 {T : Tb} : Rg T zS := by
 have hz : ∀ i, hasBit 0 i = false := fun i => by rw [hasBit_test]; exact Nat.zero_testBit i
 refine ⟨⟨by decide, by decide, by decide, fun _ => by show 0 ≤ 255; omega, by decide⟩, fun n h => ?_, fun n h => ?_, fun n h => ?_, fun _ _ _ => rfl, fun _ _ => by show 0 ≤ 20; omega, fun p h => ?_, fun n x _ => ?_⟩
 ·have h : hasBit 0 n = true := h
  rw [hz] at h; cases h
 ·have h : hasBit 0 n = true := h
  rw [hz] at h; cases h
 ·have h : hasBit 0 n = true := h
  rw [hz] at h; cases h
 ·have h : hasBit 0 p = true := h
  rw [hz] at h; cases h
 ·rw [ln_iff]
  intro h
  have h : hasBit 0 n = true := h
  rw [hz] at h; cases h
attribute [local irreducible] Sl.v hasBit pw withBit woBit cyL stL stV tmL freeS ndBad maySet ptL setS mayCan canS canD nedS flipB mayMov movS comG relS rouS proS tidyS comsG rousS prosS nextG outS lnOk rightK rgtS eqS Mc.tb upd mayS checkS sideN
attribute [local irreducible] tbL rwL secOf cofL Rt.tr Rt.nd conflictS pairS formedS
attribute [local irreducible] mskS
attribute [local irreducible] zS RwA IqOk

set_option maxHeartbeats 16000000 in
theorem ilxaRun_is (L : Lay) (ra : Option Addr) (n rc : Nat) (X : List Iq) (w : World) (hL : LayAt w L) (hX : SlAt 4 iqC w ⟨ra, rc, X⟩) (hxn : X.length = n) (hxo : ∀ x ∈ X, IqOk w x) :
 Calls Try.prog 7 #[.agg #[L.se.v, L.po.v, L.sg.v, L.rt.v], .slice ra n rc] w fun e w' => e = .returned (.bool true) ∧ Below w.heap.size w w' := by
 obtain ⟨n1, hn1⟩ : ∃ n, L.se.l.length = n := ⟨_, rfl⟩
 obtain ⟨n2, hn2⟩ : ∃ n, L.po.l.length = n := ⟨_, rfl⟩
 obtain ⟨n3, hn3⟩ : ∃ n, L.sg.l.length = n := ⟨_, rfl⟩
 obtain ⟨n4, hn4⟩ : ∃ n, L.rt.l.length = n := ⟨_, rfl⟩
 obtain ⟨z, hz⟩ : ∃ z, weightS 400 L = z := ⟨_, rfl⟩
 by_cases h4 : 400 < z
 ·have KM : Hid (∀ V, Below w.heap.size w V → Calls Try.prog 10 #[.agg #[L.se.v, L.po.v, L.sg.v, L.rt.v]] V fun e w' => e = .returned (.tuple #[.pointer none, .bool false]) ∧ Below V.heap.size V w') := Lib.hid (fun V hV => made_big L V (hL.below hV) z hz h4)
  rw [slv hn1, slv hn2, slv hn3, slv hn4] at KM ⊢
  clear hn1 hn2 hn3 hn4 hL hz hX hxn hxo
  go_enter Try.func7, Try.ntmps7
  go_upto_region 1 with fail
  refine name_last (os := [.cells #[.slice L.se.a n1 L.se.c, .slice L.po.a n2 L.po.c, .slice L.sg.a n3 L.sg.c, .slice L.rt.a n4 L.rt.c] 27]) (w0 := w) rfl ?_
  intro W hat hbw
  obtain ⟨gl, hgl⟩ : ∃ g, g = w.heap.size := ⟨_, rfl⟩
  have q0 := hat 0 _ rfl
  rw [Nat.add_zero, ← hgl] at q0
  rw [← hgl]
  have HQl := Lib.hid q0
  have HB0 := Lib.hid hbw
  clear hat hbw q0 hgl
  have l0 := blk_cell HQl.out 0 _ rfl
  have l1 := blk_cell HQl.out 1 _ rfl
  have l2 := blk_cell HQl.out 2 _ rfl
  have l3 := blk_cell HQl.out 3 _ rfl
  go_wp2_with fail
  refine (KM.out _ HB0.out).mono ?_
  rintro e w1 ⟨rfl, hb⟩
  have HB1 := Lib.hid (below_on HB0.out hb)
  clear hb l0 l1 l2 l3
  go_wp2_with fail
  refine (works_is _).mono ?_
  rintro e w2 ⟨rfl, hb⟩
  have HBE := Lib.hid (below_on HB1.out hb)
  clear hb
  go_wp2_with fail
  go_ret
  exact ⟨rfl, HBE.out⟩
 ·by_cases hc : (checkS L).1 = 0
  rotate_left
  ·have KM : Hid (∀ V, Below w.heap.size w V → Calls Try.prog 10 #[.agg #[L.se.v, L.po.v, L.sg.v, L.rt.v]] V fun e w' => e = .returned (.tuple #[.pointer none, .bool false]) ∧ Below V.heap.size V w') := Lib.hid (fun V hV => made_no L V (hL.below hV) z hz h4 _ rfl hc)
   rw [slv hn1, slv hn2, slv hn3, slv hn4] at KM ⊢
   clear hn1 hn2 hn3 hn4 hL hz hX hxn hxo hc
   go_enter Try.func7, Try.ntmps7
   go_upto_region 1 with fail
   refine name_last (os := [.cells #[.slice L.se.a n1 L.se.c, .slice L.po.a n2 L.po.c, .slice L.sg.a n3 L.sg.c, .slice L.rt.a n4 L.rt.c] 27]) (w0 := w) rfl ?_
   intro W hat hbw
   obtain ⟨gl, hgl⟩ : ∃ g, g = w.heap.size := ⟨_, rfl⟩
   have q0 := hat 0 _ rfl
   rw [Nat.add_zero, ← hgl] at q0
   rw [← hgl]
   have HQl := Lib.hid q0
   have HB0 := Lib.hid hbw
   clear hat hbw q0 hgl
   have l0 := blk_cell HQl.out 0 _ rfl
   have l1 := blk_cell HQl.out 1 _ rfl
   have l2 := blk_cell HQl.out 2 _ rfl
   have l3 := blk_cell HQl.out 3 _ rfl
   go_wp2_with fail
   refine (KM.out _ HB0.out).mono ?_
   rintro e w1 ⟨rfl, hb⟩
   have HB1 := Lib.hid (below_on HB0.out hb)
   clear hb l0 l1 l2 l3
   go_wp2_with fail
   refine (works_is _).mono ?_
   rintro e w2 ⟨rfl, hb⟩
   have HBE := Lib.hid (below_on HB1.out hb)
   clear hb
   go_wp2_with fail
   go_ret
   exact ⟨rfl, HBE.out⟩
  ·have KM : Hid (∀ V, Below w.heap.size w V → Calls Try.prog 10 #[.agg #[L.se.v, L.po.v, L.sg.v, L.rt.v]] V fun e w' => ∃ m M, e = .returned (.tuple #[.pointer (some ⟨m, 0, none⟩), .bool true]) ∧ MachX (fun b => w'.heap.size ≤ b) w' m M ∧ M.tb = tbL L ∧ M.pt = pw L.po.l.length - 1 ∧ Below V.heap.size V w') := Lib.hid (fun V hV => (made_is L V (hL.below hV) z hz h4 hc).mono (fun _ _ ⟨m, M, e1, e2, e3, e4, e5⟩ => ⟨m, M, e1, mach_low e2, e3, e4, e5⟩))
   have KSFA : Hid (∀ (x : Iq) (OP : Nat) (cl : List (Nat × Int)) (NS : St), (x.oc < 18446744073709551616 ∧ x.no < 4294967296 ∧ x.re < 4294967296) → Rg (tbL L) NS → outS (tbL L) NS x.oc x.no x.re = OP → ∀ V, Below w.heap.size w V → Calls Try.prog 21 #[.agg #[L.se.v, L.po.v, L.sg.v, L.rt.v], .agg (stL NS).toArray, .agg #[.int .u64 (x.oc : Int), .int .u32 (x.no : Int), .int .u32 (x.re : Int), .slice x.a x.len x.cap], .agg #[.int .u64 (OP : Int), .int .u32 (NS.pt : Int)]] V fun e w' => e = .returned (.bool true) ∧ Below V.heap.size V w') := Lib.hid (fun x OP _ NS hb hR hO V hV => safe_is L NS x.oc x.no x.re OP x.a x.len x.cap V (hL.below hV) hc hR hb.1 hb.2.1 hb.2.2 hO)
   have HCK := Lib.hid hc
   have HTR := Lib.hid (tbl_right hc)
   have HMAY : Hid (mayS L = true) := Lib.hid (cs_zero hc)
   have HS4 : Hid (n4 ≤ 64) := Lib.hid (by rw [← hn4]; exact (mayS_small (cs_zero hc)).2.2.2)
   have HN4 := Lib.hid hn4
   have HLW := Lib.hid hL
   have HXR := Lib.hid hX.row
   have HXN := Lib.hid hxn
   have HXO := Lib.hid hxo
   rw [slv hn1, slv hn2, slv hn3, slv hn4] at KM KSFA ⊢
   clear hn1 hn2 hn3 hn4 hL hz hX hxn hxo hc h4
   go_enter Try.func7, Try.ntmps7
   go_upto_region 1 with fail
   refine name_last (os := [.cells #[.slice L.se.a n1 L.se.c, .slice L.po.a n2 L.po.c, .slice L.sg.a n3 L.sg.c, .slice L.rt.a n4 L.rt.c] 27]) (w0 := w) rfl ?_
   intro W hat hbw
   obtain ⟨gl, hgl⟩ : ∃ g, g = w.heap.size := ⟨_, rfl⟩
   have q0 := hat 0 _ rfl
   rw [Nat.add_zero, ← hgl] at q0
   rw [← hgl]
   have HQl := Lib.hid q0
   have HB0 := Lib.hid hbw
   clear hat hbw q0 hgl
   have l0 := blk_cell HQl.out 0 _ rfl
   have l1 := blk_cell HQl.out 1 _ rfl
   have l2 := blk_cell HQl.out 2 _ rfl
   have l3 := blk_cell HQl.out 3 _ rfl
   go_wp2_with fail
   refine (KM.out _ HB0.out).mono ?_
   rintro e w1 ⟨m, M, rfl, hM, ht, hp, hb⟩
   have HM := Lib.hid (And.intro hM (And.intro ht hp))
   have HB1 := Lib.hid (below_on HB0.out hb)
   have HL1 := Lib.hid (blk_keep hb HQl.out)
   clear hb hM ht hp l0 l1 l2 l3
   by_cases h60 : 60 < n
   ·have d : (60 : Int) < (n : Int) := by omega
    have dd : decide ((60 : Int) < (n : Int)) = true := decide_eq_true d
    clear h60
    go_wp2_with fail
    refine (works_is _).mono ?_
    rintro e w2 ⟨rfl, hb⟩
    have HBE := Lib.hid (below_on HB1.out hb)
    clear hb
    go_wp2_with fail
    go_ret
    exact ⟨rfl, HBE.out⟩
   ·have d : ¬ (60 : Int) < (n : Int) := by omega
    have dd : decide ((60 : Int) < (n : Int)) = false := decide_eq_false d
    have HN60 : Hid (n ≤ 60) := Lib.hid (by omega)
    clear h60
    have ha := alloc1 w1 (.cells (stL zS).toArray 32) (Below.refl _ _)
    have hk := below1 w1 (.cells (stL zS).toArray 32)
    obtain ⟨hst, hq9, ho9⟩ := store_st (s' := zS) ha
    have HST := Lib.hid hst
    have HG0 := Lib.hid hq9
    have HB40 : Hid (Below w1.heap.size w1 ((w1.alloc (.cells (stL zS).toArray 32)).setCells w1.heap.size 0 (stL zS))) := Lib.hid (Only.below hk (Nat.le_refl _) hk.size ho9)
    obtain ⟨V4, hV4⟩ : ∃ V', V' = (w1.alloc (.cells (stL zS).toArray 32)).setCells w1.heap.size 0 (stL zS) := ⟨_, rfl⟩
    rw [← hV4] at HST HG0 HB40
    clear ha hk hst hq9 ho9 hV4
    go_upto_region 5 with (first
     | rw [zero_st]
     | ((with_reducible refine wpList_build_is (op := ⟨some 26, _, _, _, _, _⟩) rfl 32 rfl _ built_zero ?_))
     | ((with_reducible refine wpList_store_is (op := ⟨none, .store 32 _ _, _, _, _, _⟩) rfl 32 _ _ rfl _ _ ?_ ?_ _ HST.out ?_); (· rfl); (· rfl)))
    (try simp only [Act.put])
    obtain ⟨gs, hgs⟩ : ∃ g, g = w1.heap.size := ⟨_, rfl⟩
    have HGS1 : Hid (w1.heap.size ≤ gs) := Lib.hid (by omega)
    rw [← hgs] at HG0 ⊢
    clear hgs HST d dd
    go_upto_region 6 with fail
    go_loopg [8] n (fun g v wr => ∃ (i : Nat) (S : St), i + g = n ∧ v = .int .i64 (i : Int) ∧ Rg (tbL L) S ∧ wr.heap[gs]? = some (.cells (stL S).toArray 32) ∧ Below w1.heap.size w1 wr)
    case atStart => exact ⟨0, zS, by omega, rfl, rg_zero0, HG0.out, HB40.out⟩
    case round =>
     obtain ⟨i, S, hi, rfl, hrg, hgs, hbw⟩ := hrel
     have HI := Lib.hid hi
     have HRG := Lib.hid hrg
     have HGS := Lib.hid hgs
     have HB := Lib.hid hbw
     have HLr := Lib.hid (blk_keep hbw HL1.out)
     clear hi hrg hgs hbw
     by_cases hlt : i < n
     ·skip
      obtain ⟨wo, rfl⟩ : ∃ q, q = wr := ⟨_, rfl⟩
      have d1 : (0 : Int) ≤ i := by omega
      have d2 : (i : Int) < n := by omega
      have e1 := k_succ hlt (Nat.le_trans HN60.out (by decide))
      have HLT := Lib.hid hlt
      obtain ⟨x, hxx⟩ : ∃ x, X[i]? = some x := ⟨_, List.getElem?_eq_getElem (by rw [HXN.out]; exact hlt)⟩
      have hok := HXO.out x (List.mem_of_getElem? hxx)
      unfold IqOk at hok
      obtain ⟨hbd, cl, hcl1, hcl2, hcl3⟩ := hok
      have HOCX := Lib.hid hbd
      have HCL := Lib.hid (And.intro hcl1 (And.intro hcl2 hcl3))
      rcases HXR.out with hnil | ⟨rb, ro, hra, hc⟩
      ·have := HXN.out; rw [hnil] at this; simp at this; omega
      subst hra
      have z0 := cell_later (below_on HB1.out HB.out) (hc i _ hxx 0 _ rfl)
      have z1 := cell_later (below_on HB1.out HB.out) (hc i _ hxx 1 _ rfl)
      have z2 := cell_later (below_on HB1.out HB.out) (hc i _ hxx 2 _ rfl)
      have z3 := cell_later (below_on HB1.out HB.out) (hc i _ hxx 3 _ rfl)
      rw [Nat.add_zero] at z0
      have HZX := Lib.hid (And.intro z0 (And.intro z1 (And.intro z2 z3)))
      have HD := Lib.hid (And.intro d1 d2)
      clear hlt hxx hbd hcl1 hcl2 hcl3 hc z0 z1 z2
      by_cases h100 : 100 < x.len
      ·have d : (100 : Int) < (x.len : Int) := by omega
       clear h100
       go_wp2_with fail
       refine (works_is _).mono ?_
       rintro e wz ⟨rfl, hb⟩
       have HBE := Lib.hid (below_on HB1.out (below_on HB.out hb))
       clear hb
       go_wp2_with fail
       go_ret
       exact ⟨rfl, HBE.out⟩
      ·have d : ¬ (100 : Int) < (x.len : Int) := by omega
       have H100 := Lib.hid h100
       clear h100
       obtain ⟨NS, hNS⟩ : ∃ t, nextS (tbL L) S x.oc cl = t := ⟨_, rfl⟩
       obtain ⟨OP, hOP⟩ : ∃ t, outS (tbL L) NS x.oc x.no x.re = t := ⟨_, rfl⟩
       obtain ⟨PT, hPT⟩ : ∃ t, NS.pt = t := ⟨_, rfl⟩
       have HRN : Hid (Rg (tbL L) NS) := Lib.hid (by have h := rg_next HTR.out HRG.out x.oc cl; rw [hNS] at h; exact h)
       have KST : Hid (∀ V, Below w1.heap.size w1 V → Calls Try.prog 11 #[.pointer (some ⟨m, 0, none⟩), .agg (stL S).toArray, .agg #[.int .u64 (x.oc : Int), .int .u32 (x.no : Int), .int .u32 (x.re : Int), .slice x.a x.len x.cap]] V fun e w' => e = .returned (.tuple #[.agg (stL NS).toArray, .agg #[.int .u64 (OP : Int), .int .u32 (PT : Int)]]) ∧ Below V.heap.size V w') := Lib.hid (fun V hV => by
        have h := mstepS HM.out.1 hV HCK.out HM.out.2.1 HM.out.2.2 S HRG.out.ok x.oc x.no x.re HOCX.out.1 HOCX.out.2.1 HOCX.out.2.2 x.a x.len x.cap cl (HCL.out.2.2.below (below_on HB1.out hV)) HCL.out.1 HCL.out.2.1 (by have := H100.out; omega)
        rw [hNS, hOP, hPT] at h
        exact h)
       have KSF0 := Lib.hid (KSFA.out x OP cl NS HOCX.out HRN.out hOP)
       rw [hPT] at KSF0
       have HNSO : Hid (nextS (tbL L) S x.oc cl = NS ∧ outS (tbL L) NS x.oc x.no x.re = OP ∧ NS.pt = PT) := Lib.hid ⟨hNS, hOP, hPT⟩
       clear hNS hOP hPT
       go_upto_region 10 with fail
       clear d d1 d2 z3
       refine wp_region_rel4 (by kernel_rfl) [12, 13] 16 [0, 1, 2, 3, 4, 5, 6, 7, 8, 9, 10, 11] [42, 43, 44, 45, 46, 47, 48, 41, 49, 50, 9, 10] #[true, true, true, true, true, true, true, true, true, true, true, true, false, false] #[true, true, true, true, true, true, true, true, true, false, true, true, false, false] 2 [(fun v _ => v = .pointer (some ⟨m, 0, none⟩)), (fun v _ => v = .agg (stL S).toArray), (fun v _ => v = .slice (some ⟨rb, ro, none⟩) n rc), (fun v _ => v = .int .i64 (i : Int)), (fun v _ => v = .pointer (some ⟨rb, ro + i * 4, none⟩)), (fun v _ => v = .agg #[.int .u64 (x.oc : Int), .int .u32 (x.no : Int), .int .u32 (x.re : Int), .slice x.a x.len x.cap]), (fun v _ => v = .tuple #[.agg (stL NS).toArray, .agg #[.int .u64 (OP : Int), .int .u32 (PT : Int)]]), (fun v _ => v = .tuple #[.agg (stL NS).toArray, .agg #[.int .u64 (OP : Int), .int .u32 (PT : Int)]]), (fun v _ => v = .agg (stL NS).toArray), (fun v _ => v = .agg #[.int .u64 (OP : Int), .int .u32 (PT : Int)]), (fun v V => ∃ g, v = .pointer (some ⟨g, 0, none⟩) ∧ wo.heap.size ≤ g ∧ V.heap[g]? = some (.cells (stL zS).toArray 32)), (fun v V => ∃ g, v = .pointer (some ⟨g, 0, none⟩) ∧ wo.heap.size ≤ g ∧ V.heap[g]? = some (.cells #[.int .u64 0, .int .u32 0] 48)), (fun _ _ => True), (fun _ _ => True)] 9 50 (.agg #[.int .u64 (OP : Int), .int .u32 (PT : Int)]) (ou := ⟨some 50, _, _, _, _, _⟩) rfl rfl rfl (by kernel_rfl) (by kernel_rfl) (by kernel_rfl) (by kernel_rfl) (fun _ _ _ h => h) (fun _ => rfl) ?_ (by kernel_rfl) (by kernel_rfl) (by kernel_rfl) (by kernel_rfl) (by kernel_rfl) rfl (by kernel_rfl) rfl rfl (by kernel_rfl) rfl rfl (by kernel_rfl) ?_ ?_ ?_
       ·intro a V hx
        have h7 : a.eval (.tmp 41) = .tuple #[.agg (stL NS).toArray, .agg #[.int .u64 (OP : Int), .int .u32 (PT : Int)]] := hx 7 41 rfl rfl
        have h7' : a.tmps[41]?.getD undef = .tuple #[.agg (stL NS).toArray, .agg #[.int .u64 (OP : Int), .int .u32 (PT : Int)]] := by rw [← h7]; simp [Act.eval, Array.getD_eq_getD_getElem?]
        clear hx
        exact Or.inl ⟨by rfl, fun w => by go_simp⟩
       ·exact ⟨stays_is _, stays_is _, stays_is _, stays_is _, stays_is _, stays_is _, stays_is _, stays_is _, stays_is _, stays_is _, (fun v W W2 h hb => by obtain ⟨g, h1, h2, h3⟩ := h; exact ⟨g, h1, h2, blk_keep hb h3⟩), (fun v W W2 h hb => by obtain ⟨g, h1, h2, h3⟩ := h; exact ⟨g, h1, h2, blk_keep hb h3⟩), stays_true, stays_true, trivial⟩
       ·refine ⟨?_, ?_, ?_, ?_, ?_, ?_, ?_, ?_, ?_, ?_, ?_, ?_, trivial⟩
        ·refine relOb_mk (o := ⟨some 42, _, _, _, _, _⟩) rfl (fun r V hc hf hg hs hb hd => ?_)
         have x5 : r (.tmp 5) = .pointer (some ⟨m, 0, none⟩) := hs 5 (by kernel_rfl)
         clear hs hd hg
         go_simp
         exact ⟨Below.refl _ _, rfl⟩
        ·refine relOb_mk (o := ⟨some 43, _, _, _, _, _⟩) rfl (fun r V hc hf hg hs hb hd => ?_)
         have x7 : r (.tmp 7) = .pointer (some ⟨gs, 0, none⟩) := hs 7 (by kernel_rfl)
         clear hs hd hg
         exact rel_load 32 _ rfl _ _ x7 (load_st (blk_keep hb HGS.out)) rfl
        ·refine relOb_mk (o := ⟨some 44, _, _, _, _, _⟩) rfl (fun r V hc hf hg hs hb hd => ?_)
         have x1 : r (.tmp 1) = .slice (some ⟨rb, ro, none⟩) n rc := hs 1 (by kernel_rfl)
         clear hs hd hg
         go_simp
         exact ⟨Below.refl _ _, rfl⟩
        ·refine relOb_mk (o := ⟨some 45, _, _, _, _, _⟩) rfl (fun r V hc hf hg hs hb hd => ?_)
         have x8 : r (.tmp 8) = .int .i64 (i : Int) := hs 8 (by kernel_rfl)
         clear hs hd hg
         go_simp
         exact ⟨Below.refl _ _, rfl⟩
        ·refine relOb_mk (o := ⟨some 46, _, _, _, _, _⟩) rfl (fun r V hc hf hg hs hb hd => ?_)
         have h2 : r (.tmp 44) = .slice (some ⟨rb, ro, none⟩) n rc := hd 2 44 rfl (by kernel_rfl)
         have h3 : r (.tmp 45) = .int .i64 (i : Int) := hd 3 45 rfl (by kernel_rfl)
         clear hs hd hg
         have e1 := HD.out.1
         have e2 := HD.out.2
         go_simp
         exact ⟨Below.refl _ _, rfl⟩
        ·refine relOb_mk (o := ⟨some 47, _, _, _, _, _⟩) rfl (fun r V hc hf hg hs hb hd => ?_)
         have h4 : r (.tmp 46) = .pointer (some ⟨rb, ro + i * 4, none⟩) := hd 4 46 rfl (by kernel_rfl)
         clear hs hd hg
         have z0 := cell_later hb HZX.out.1
         have z1 := cell_later hb HZX.out.2.1
         have z2 := cell_later hb HZX.out.2.2.1
         have z3 := cell_later hb HZX.out.2.2.2
         go_simp
         exact ⟨Below.refl _ _, rfl⟩
        ·refine relOb_mk (o := ⟨some 48, _, _, _, _, _⟩) rfl (fun r V hc hf hg hs hb hd => ?_)
         have h0 : r (.tmp 42) = .pointer (some ⟨m, 0, none⟩) := hd 0 42 rfl (by kernel_rfl)
         have h1 : r (.tmp 43) = .agg (stL S).toArray := hd 1 43 rfl (by kernel_rfl)
         have h5 : r (.tmp 47) = .agg #[.int .u64 (x.oc : Int), .int .u32 (x.no : Int), .int .u32 (x.re : Int), .slice x.a x.len x.cap] := hd 5 47 rfl (by kernel_rfl)
         clear hs hd hg
         go_simp
         refine (KST.out V (below_on HB.out hb)).mono ?_
         rintro e w' ⟨rfl, h3⟩
         exact ⟨_, rfl, h3, rfl⟩
        ·refine relOb_mk (o := ⟨some 41, _, _, _, _, _⟩) rfl (fun r V hc hf hg hs hb hd => ?_)
         have h6 : r (.tmp 48) = .tuple #[.agg (stL NS).toArray, .agg #[.int .u64 (OP : Int), .int .u32 (PT : Int)]] := hd 6 48 rfl (by kernel_rfl)
         clear hs hd hg
         go_simp
         exact ⟨Below.refl _ _, rfl⟩
        ·refine relOb_mk (o := ⟨some 49, _, _, _, _, _⟩) rfl (fun r V hc hf hg hs hb hd => ?_)
         have h7 : r (.tmp 41) = .tuple #[.agg (stL NS).toArray, .agg #[.int .u64 (OP : Int), .int .u32 (PT : Int)]] := hd 7 41 rfl (by kernel_rfl)
         clear hs hd hg
         go_simp
         exact ⟨Below.refl _ _, rfl⟩
        ·refine relOb_mk (o := ⟨some 50, _, _, _, _, _⟩) rfl (fun r V hc hf hg hs hb hd => ?_)
         have h7 : r (.tmp 41) = .tuple #[.agg (stL NS).toArray, .agg #[.int .u64 (OP : Int), .int .u32 (PT : Int)]] := hd 7 41 rfl (by kernel_rfl)
         clear hs hd hg
         go_simp
         exact ⟨Below.refl _ _, rfl⟩
        ·refine relOb_mk (o := ⟨some 9, _, _, _, _, _⟩) rfl (fun r V hc hf hg hs hb hd => ?_)
         clear hs hd hg
         have hs := hb.size
         go_simp
         rw [zero_st]
         exact ⟨below1 V _, ⟨_, rfl, hs, alloc1 V _ (Below.refl _ _)⟩⟩
        ·refine relOb_mk (o := ⟨some 10, _, _, _, _, _⟩) rfl (fun r V hc hf hg hs hb hd => ?_)
         clear hs hd hg
         have hs := hb.size
         go_simp
         exact ⟨below1 V _, ⟨_, rfl, hs, alloc1 V _ (Below.refl _ _)⟩⟩
       ·intro a V hb hx
        have h0 : a.eval (.tmp 42) = .pointer (some ⟨m, 0, none⟩) := hx 0 42 rfl rfl
        have h1 : a.eval (.tmp 43) = .agg (stL S).toArray := hx 1 43 rfl rfl
        have h2 : a.eval (.tmp 44) = .slice (some ⟨rb, ro, none⟩) n rc := hx 2 44 rfl rfl
        have h3 : a.eval (.tmp 45) = .int .i64 (i : Int) := hx 3 45 rfl rfl
        have h4 : a.eval (.tmp 46) = .pointer (some ⟨rb, ro + i * 4, none⟩) := hx 4 46 rfl rfl
        have h5 : a.eval (.tmp 47) = .agg #[.int .u64 (x.oc : Int), .int .u32 (x.no : Int), .int .u32 (x.re : Int), .slice x.a x.len x.cap] := hx 5 47 rfl rfl
        have h6 : a.eval (.tmp 48) = .tuple #[.agg (stL NS).toArray, .agg #[.int .u64 (OP : Int), .int .u32 (PT : Int)]] := hx 6 48 rfl rfl
        have h7 : a.eval (.tmp 41) = .tuple #[.agg (stL NS).toArray, .agg #[.int .u64 (OP : Int), .int .u32 (PT : Int)]] := hx 7 41 rfl rfl
        have h8 : a.eval (.tmp 49) = .agg (stL NS).toArray := hx 8 49 rfl rfl
        have h9 : a.eval (.tmp 50) = .agg #[.int .u64 (OP : Int), .int .u32 (PT : Int)] := hx 9 50 rfl rfl
        have h10 : (fun v V => ∃ g, v = .pointer (some ⟨g, 0, none⟩) ∧ wo.heap.size ≤ g ∧ V.heap[g]? = some (.cells (stL zS).toArray 32)) (a.eval (.tmp 9)) V := hx 10 9 rfl rfl
        obtain ⟨v9, e9⟩ : ∃ v, a.eval (.tmp 9) = v := ⟨_, rfl⟩
        rw [e9] at h10
        have h11 : (fun v V => ∃ g, v = .pointer (some ⟨g, 0, none⟩) ∧ wo.heap.size ≤ g ∧ V.heap[g]? = some (.cells #[.int .u64 0, .int .u32 0] 48)) (a.eval (.tmp 10)) V := hx 11 10 rfl rfl
        obtain ⟨v10, e10⟩ : ∃ v, a.eval (.tmp 10) = v := ⟨_, rfl⟩
        rw [e10] at h11
        unfold fillAll
        simp only [List.foldl_cons, List.foldl_nil, h0, h1, h2, h3, h4, h5, h6, h7, h8, h9, e9, e10, Act.put, List.setIfInBounds_toArray, List.set_cons_zero, List.set_cons_succ]
        clear h0 h1 h2 h3 h4 h5 h6 h7 h8 h9 e9 e10 hx
        obtain ⟨g9, k9, hg9, q9⟩ := h10
        obtain ⟨gx, kx, hgx, qx⟩ := h11
        subst k9
        subst kx
        have hne : g9 ≠ gx := ne_cells q9 qx (by rw [st_size]; decide)
        obtain ⟨hst, hq9, ho9⟩ := store_st (s' := NS) q9
        have HV9 : Hid (Below wo.heap.size wo (V.setCells g9 0 (stL NS))) := Lib.hid (Only.below hb hg9 hb.size ho9)
        have HX9 := Lib.hid (Only.keep ho9 (fun e => hne e.symm) qx)
        have HT9 := Lib.hid hq9
        have HGX := Lib.hid (And.intro hg9 (And.intro hgx hne))
        refine wpAny_ready (rs := [12]) (by kernel_rfl) (by simp) (AllReady.cons (o := ⟨none, _, _, _, _, _⟩) rfl (fun K hK => ?_) AllReady.nil)
        refine wp_store_is 32 _ _ rfl _ _ rfl rfl _ hst ?_
        refine name_K ?_
        intro VA hVA
        rw [← hVA] at HV9 HX9 HT9
        refine hK _ _ ?_
        clear hK K hst hq9 ho9 hVA hne hg9 hgx q9 qx hb
        refine wpAny_ready (rs := [13]) (by kernel_rfl) (by simp) (AllReady.cons (o := ⟨none, _, _, _, _, _⟩) rfl (fun K hK => ?_) AllReady.nil)
        have c0 := blk_cell HX9.out 0 _ rfl
        have c1 := blk_cell HX9.out 1 _ rfl
        have f0 := blk_free HX9.out 0
        have f1 := blk_free HX9.out 1
        have hl := blk_lt HX9.out
        go_simp
        clear c0 c1 f0 f1 hl
        refine name_K ?_
        intro VB hVB
        have ho : Only gx VA VB := by rw [hVB]; exact ((Only.refl gx VA).setCell rfl _).setCell rfl _
        have HXB : Hid (VB.heap[gx]? = some (.cells #[.int .u64 (OP : Int), .int .u32 (PT : Int)] 48)) := Lib.hid (by rw [hVB]; exact blk_set (blk_set HX9.out 0 _) 1 _)
        have HTB := Lib.hid (Only.keep ho HGX.out.2.2 HT9.out)
        have HVB : Hid (Below wo.heap.size wo VB) := Lib.hid (Only.below HV9.out HGX.out.2.1 HV9.out.size ho)
        refine hK _ _ ?_
        clear hK K hVB ho HX9 HT9 HV9
        refine wpAny_done (by kernel_rfl) ?_ _
        have HBB := Lib.hid (below_on HB.out HVB.out)
        have HLB := Lib.hid (blk_keep HVB.out HLr.out)
        have HSB := Lib.hid (blk_keep HVB.out HGS.out)
        have KRN : Hid (∀ w', Below VB.heap.size VB w' → Calls Try.prog 18 #[.pointer (some ⟨m, 0, none⟩), .agg (stL NS).toArray] w' fun e w'' => e = .returned (.bool true) ∧ Below VB.heap.size VB w'') := Lib.hid (fun w' hw' => by
         have h := mrightS HM.out.1 (below_on HBB.out hw') HCK.out HM.out.2.1 HM.out.2.2 NS HRN.out.ok
         rw [rg_to HRN.out] at h
         exact h.mono (fun _ _ h => ⟨h.1, below_on hw' h.2⟩))
        have KSF : Hid (∀ w', Below VB.heap.size VB w' → Calls Try.prog 21 #[.agg #[.slice L.se.a n1 L.se.c, .slice L.po.a n2 L.po.c, .slice L.sg.a n3 L.sg.c, .slice L.rt.a n4 L.rt.c], .agg (stL NS).toArray, .agg #[.int .u64 (x.oc : Int), .int .u32 (x.no : Int), .int .u32 (x.re : Int), .slice x.a x.len x.cap], .agg #[.int .u64 (OP : Int), .int .u32 (PT : Int)]] w' fun e w'' => e = .returned (.bool true) ∧ Below VB.heap.size VB w'') := Lib.hid (fun w' hw' => (KSF0.out w' (below_on HB1.out (below_on HBB.out hw'))).mono (fun _ _ h => ⟨h.1, below_on hw' h.2⟩))
        clear KSF0 KST
        have hix := HD.out.1
        have hix2 := HD.out.2
        go_upto_region 11 with fail
        refine wp_region_calm (by kernel_rfl) ?_ ?_
        ·kernel_rfl
        repeat first
         | go_big_quiet_skip
         | (go_big_quiet_want
            with_reducible refine quiet_load_is (o := ⟨some 52, _, _, _, _, _⟩) 32 _ rfl _ _ ?_ (fun w' hw' => load_st (blk_keep hw' HTB.out)) ?_
            ·rfl
            simp only [Act.put, List.setIfInBounds_toArray, List.set_cons_zero, List.set_cons_succ]
            go_big_quiet_on)
         | (go_big_quiet_want
            with_reducible refine quiet_load_is (o := ⟨some 57, _, _, _, _, _⟩) 32 _ rfl _ _ ?_ (fun w' hw' => load_st (blk_keep hw' HTB.out)) ?_
            ·rfl
            simp only [Act.put, List.setIfInBounds_toArray, List.set_cons_zero, List.set_cons_succ]
            go_big_quiet_on)
         | (go_big_quiet_want; go_big_quiet_op; go_big_quiet_on)
         | (with_reducible apply wpQuiet_step
            intro K hK
            go_simp
            first
             | (refine hK _ ?_; clear hK K)
             | (apply Exists.intro
                refine ⟨fun w' hw' => ?_, hK _ ?_⟩
                ·
                 (first
                  | with_reducible exact KRN.out _ hw'
                  | with_reducible exact KSF.out _ hw'
                  | (have l0 := blk_cell (blk_keep hw' HLB.out) 0 _ rfl
                     have l1 := blk_cell (blk_keep hw' HLB.out) 1 _ rfl
                     have l2 := blk_cell (blk_keep hw' HLB.out) 2 _ rfl
                     have l3 := blk_cell (blk_keep hw' HLB.out) 3 _ rfl
                     go_simp
                     first | done | with_reducible exact rfl | with_reducible exact ⟨rfl, rfl⟩ | with_reducible exact KRN.out _ hw' | with_reducible exact KSF.out _ hw')
                  | (have z0 := cell_later (below_on HVB.out hw') HZX.out.1
                     have z1 := cell_later (below_on HVB.out hw') HZX.out.2.1
                     have z2 := cell_later (below_on HVB.out hw') HZX.out.2.2.1
                     have z3 := cell_later (below_on HVB.out hw') HZX.out.2.2.2
                     go_simp
                     first | done | with_reducible exact rfl | with_reducible exact ⟨rfl, rfl⟩ | with_reducible exact KRN.out _ hw' | with_reducible exact KSF.out _ hw')
                  | (have o0 := blk_cell (blk_keep hw' HXB.out) 0 _ rfl
                     have o1 := blk_cell (blk_keep hw' HXB.out) 1 _ rfl
                     go_simp
                     first | done | with_reducible exact rfl | with_reducible exact ⟨rfl, rfl⟩ | with_reducible exact KRN.out _ hw' | with_reducible exact KSF.out _ hw'))
                clear hK K))
        refine wpQuiet_nil ?_
        intro w7 hw7
        have HB7 := Lib.hid (below_on HBB.out hw7)
        have HW7 := Lib.hid hw7
        clear hw7
        clear KRN KSF hix hix2
        have HL7 := Lib.hid (blk_keep HW7.out HLB.out)
        have HS7 := Lib.hid (blk_keep HW7.out HSB.out)
        have HT7 := Lib.hid (blk_keep HW7.out HTB.out)
        go_upto_region 14 with fail
        go_loopg [11] n4 (fun g v wq => ∃ k : Nat, k + g = n4 ∧ v = .int .i64 (k : Int) ∧ Below w7.heap.size w7 wq)
        case atStart => exact ⟨0, by omega, rfl, Below.refl _ _⟩
        case round =>
         obtain ⟨k, hk, rfl, hbw⟩ := hrel
         have HK := Lib.hid hk
         have HBQ := Lib.hid hbw
         have HWwr : Hid (Below w.heap.size w wr) := Lib.hid (below_on HB1.out (below_on HB7.out hbw))
         have hwo := below_on HVB.out (below_on HW7.out hbw)
         have HZX := Lib.hid (And.intro (cell_later hwo HZX.out.1) (And.intro (cell_later hwo HZX.out.2.1) (And.intro (cell_later hwo HZX.out.2.2.1) (cell_later hwo HZX.out.2.2.2))))
         have HLQ0 := Lib.hid (blk_keep hbw HL7.out)
         have HSQ0 := Lib.hid (blk_keep hbw HS7.out)
         have HTQ0 := Lib.hid (blk_keep hbw HT7.out)
         have l3 := blk_cell HLQ0.out 3 _ rfl
         clear hk hbw hwo
         by_cases hlk : k < n4
         ·skip
          have d3 : (0 : Int) ≤ k := by omega
          have d4 : (k : Int) < n4 := by omega
          have e2 := k_succ hlk (Nat.le_trans HS4.out (by decide))
          have HLK := Lib.hid hlk
          obtain ⟨y, hyy⟩ : ∃ y, L.rt.l[k]? = some y := ⟨_, List.getElem?_eq_getElem (by rw [HN4.out]; exact hlk)⟩
          have hym := List.mem_of_getElem? hyy
          rcases HLW.out.rt.row with hnil | ⟨yb, yo, hyb, hyc⟩
          ·have := HN4.out; rw [hnil] at this; simp at this; omega
          have hyc := fun i c hi j v hv => cell_later HWwr.out (hyc i c hi j v hv)
          obtain ⟨p1, hp1⟩ : ∃ n, y.pa.l.length = n := ⟨_, rfl⟩
          obtain ⟨p2, hp2⟩ : ∃ n, y.po.l.length = n := ⟨_, rfl⟩
          obtain ⟨p3, hp3⟩ : ∃ n, y.ov.l.length = n := ⟨_, rfl⟩
          obtain ⟨p4, hp4⟩ : ∃ n, y.fl.l.length = n := ⟨_, rfl⟩
          have y0 := hyc k _ hyy 0 _ rfl
          have y1 := hyc k _ hyy 1 _ rfl
          have y2 := hyc k _ hyy 2 _ rfl
          have y3 := hyc k _ hyy 3 _ rfl
          have y4 := hyc k _ hyy 4 _ rfl
          have y5 := hyc k _ hyy 5 _ rfl
          rw [Nat.add_zero] at y0
          rw [slv hp1] at y2
          rw [slv hp2] at y3
          rw [slv hp3] at y4
          rw [slv hp4] at y5
          have HZY := Lib.hid (And.intro y0 (And.intro y1 (And.intro y2 (And.intro y3 (And.intro y4 y5)))))
          obtain ⟨Y, hY⟩ : ∃ x, L.rt.a = x := ⟨_, rfl⟩
          have HYY := Lib.hid hY
          have hlq := HLQ0.out
          rw [hY] at hyb hlq l3 ⊢
          subst hyb
          have HLQ1 := Lib.hid hlq
          obtain ⟨b1, hb1⟩ : ∃ b, hasBit S.lk k = b := ⟨_, rfl⟩
          obtain ⟨b2, hb2⟩ : ∃ b, hasBit NS.lk k = b := ⟨_, rfl⟩
          obtain ⟨bu, hbu⟩ : ∃ b, hasBit S.us k = b := ⟨_, rfl⟩
          have HTM : Hid ((stL S).toArray[3 + k]? = some (.int .u8 (S.tm k : Int))) := Lib.hid (by rw [List.getElem?_toArray]; exact st_tm S (by have := HLK.out; have := HS4.out; omega))
          have KH1 : Hid (∀ V, Calls Try.prog 22 #[.int .u64 (S.lk : Int), .int .i64 (k : Int)] V fun e w' => e = .returned (.bool b1) ∧ Below V.heap.size V w') := Lib.hid (fun V => dhas_is b1 S.lk k V (by have := HLK.out; have := HS4.out; omega) HRG.out.ok.lk hb1)
          have KH2 : Hid (∀ V, Calls Try.prog 22 #[.int .u64 (NS.lk : Int), .int .i64 (k : Int)] V fun e w' => e = .returned (.bool b2) ∧ Below V.heap.size V w') := Lib.hid (fun V => dhas_is b2 NS.lk k V (by have := HLK.out; have := HS4.out; omega) HRN.out.ok.lk hb2)
          have KHU : Hid (∀ V, Calls Try.prog 22 #[.int .u64 (S.us : Int), .int .i64 (k : Int)] V fun e w' => e = .returned (.bool bu) ∧ Below V.heap.size V w') := Lib.hid (fun V => dhas_is bu S.us k V (by have := HLK.out; have := HS4.out; omega) HRG.out.ok.us hbu)
          have HBU := Lib.hid hbu
          have HGONE : Hid (b1 = true → b2 = false → (∀ j ∈ y.tr, hasBit x.oc j.toNat = false) ∧ (hasBit S.us k = true ∨ S.tm k = 0) ∧ (hasBit S.us k = true ∨ hasBit S.ca k = true ∨ (2, (k : Int)) ∈ cl)) := Lib.hid (fun h1 h2 => by
           obtain ⟨g1, g2, g3⟩ := gone_parts HTR.out HRG.out x.oc cl (tbl_at hyy) (hb1.trans h1) (by rw [HNSO.out.1]; exact hb2.trans h2)
           refine ⟨fun j hj => ?_, g2, g3⟩
           rw [free_rw] at g1
           cases hh : hasBit x.oc j.toNat with
           | false => rfl
           | true =>
             rw [Bool.not_eq_true', List.any_eq_false] at g1
             exact absurd hh (g1 j hj))
          have KFR : Hid ((∀ j ∈ y.tr, hasBit x.oc j.toNat = false) → ∀ V, Below wr.heap.size wr V → Calls Try.prog 23 #[.agg #[.string y.nm, .int .i64 y.sg, y.pa.v, y.po.v, y.ov.v, y.fl.v], .agg #[.int .u64 (x.oc : Int), .int .u32 (x.no : Int), .int .u32 (x.re : Int), .slice x.a x.len x.cap]] V fun e w' => e = .returned (.bool true) ∧ Below V.heap.size V w') := Lib.hid (fun hf V hV => by
           have ok := mayS_rt HMAY.out y hym
           exact freed_yes x.oc x.no x.re x.a x.len x.cap y V ((HLW.out.rn y hym).below (below_on HWwr.out hV)) (by have := ok.pa; have := ok.ov; omega) (fun s hs => by have h := t_tr HMAY.out y hym s hs; have := (mayS_small HMAY.out).1; omega) HOCX.out.1 hf)
          have KAS0 : Hid ((2, (k : Int)) ∈ cl → ∀ V, Below wr.heap.size wr V → Calls Try.prog 24 #[.agg #[.int .u64 (x.oc : Int), .int .u32 (x.no : Int), .int .u32 (x.re : Int), .slice x.a x.len x.cap], .int .i64 (k : Int)] V fun e w' => e = .returned (.bool true) ∧ Below V.heap.size V w') := Lib.hid (fun hm V hV => asked_yes x.oc x.no x.re x.a x.len x.cap cl k V (HCL.out.2.2.below (below_on HWwr.out hV)) HCL.out.1 (by have := H100.out; omega) hm)
          rw [slv hp1, slv hp2, slv hp3, slv hp4] at KFR
          have s0 := blk_cell HSQ0.out 0 _ (st_0 S)
          clear hyc hyy hym hp1 hp2 hp3 hp4 y0 y1 y2 y3 y4 y5 hY hlk hb1 hb2 hbu hlq
          go_upto_region 16 with fail
          clear l3
          go_wp2_with fail
          refine (KH1.out _).mono ?_
          rintro e wz ⟨rfl, hbz⟩
          have HBQ1 := Lib.hid (below_on HBQ.out hbz)
          have HZ1 := Lib.hid hbz
          clear hbz s0
          cases b1 with
          | false =>
            have HBQ2 := HBQ1
            go_upto_region 17 with fail
            go_quiet (fail)
            have HB7 := Lib.hid (below_drewN HBQ2.out nq)
            go_wp2_with fail
            rw [← HYY.out]
            go_roundg (n4 - (k + 1))
            case rel => exact ⟨k + 1, k_next HK.out HLK.out, by go_num, HB7.out⟩
            case measure => exact k_less HK.out HLK.out
          | true =>
            have t0 := blk_cell (blk_keep HZ1.out HTQ0.out) 0 _ (st_0 NS)
            go_wp2_with fail
            refine (KH2.out _).mono ?_
            rintro e wy ⟨rfl, hby⟩
            have HBQ2 := Lib.hid (below_on HBQ1.out hby)
            have HZ2 : Hid (Below wr.heap.size wr wy) := Lib.hid (below_on HZ1.out hby)
            clear hby t0
            cases b2 with
            | true =>
              go_upto_region 17 with fail
              go_quiet (fail)
              have HB7 := Lib.hid (below_drewN HBQ2.out nq)
              go_wp2_with fail
              rw [← HYY.out]
              go_roundg (n4 - (k + 1))
              case rel => exact ⟨k + 1, k_next HK.out HLK.out, by go_num, HB7.out⟩
              case measure => exact k_less HK.out HLK.out
            | false =>
              have HGONE := Lib.hid (HGONE.out (by first | rfl | trivial))
              have HLQ := Lib.hid (blk_keep HZ2.out HLQ1.out)
              have HSQ := Lib.hid (blk_keep HZ2.out HSQ0.out)
              have HBwq := HZ2
              have KFRW := Lib.hid (fun w' (hw' : Below wy.heap.size wy w') => (KFR.out (HGONE.out (by first | rfl | trivial)).1 w' (below_on HZ2.out hw')).mono (fun _ _ h => (⟨h.1, below_on hw' h.2⟩ : _ ∧ Below wy.heap.size wy _)))
              have KHUW := Lib.hid (fun w' (hw' : Below wy.heap.size wy w') => (KHU.out w').mono (fun _ _ h => (⟨h.1, below_on hw' h.2⟩ : _ ∧ Below wy.heap.size wy _)))
              have KAS := Lib.hid (fun hm w' (hw' : Below wy.heap.size wy w') => (KAS0.out hm w' (below_on HZ2.out hw')).mono (fun _ _ h => (⟨h.1, below_on hw' h.2⟩ : _ ∧ Below wy.heap.size wy _)))
              clear KFR KHU KAS0
              have e1 : (0 : Int) ≤ k := by omega
              have e64 : (k : Int) < 64 := by have := HLK.out; have := HS4.out; omega
              have m1 : min k 64 = k := by have := HLK.out; have := HS4.out; omega
              have m2 : ¬ (64 : Int) ≤ (k : Int) := by omega
              have hn4 : (k : Int) < n4 := by have := HLK.out; omega
              have hix := HD.out.1
              have hix2 := HD.out.2
              have hb1 : (bits .and .u64 ((S.us : Int) / 2 ^ k) 1 == 0) = !hasBit S.us k := has_zero64 _ _ HRG.out.ok.us
              have hb2 : (bits .and .u64 ((S.ca : Int) / 2 ^ k) 1 == 0) = !hasBit S.ca k := has_zero64 _ _ HRG.out.ok.ca
              obtain ⟨hfree, htm, hask⟩ := HGONE.out (by first | rfl | trivial)
              have HFR := Lib.hid hfree
              have HASKD := Lib.hid hask
              have HTMZ := Lib.hid htm
              clear hfree htm hask
              cases bu with
              | true =>
                rw [HBU.out] at hb1
                have hb1 := hb1
                go_upto_region 17 with fail
                refine wp_region_calm (by kernel_rfl) ?_ ?_
                ·kernel_rfl
                repeat first
                 | go_big_quiet_skip
                 | (go_big_quiet_want; go_big_quiet_op; go_big_quiet_on)
                 | (with_reducible apply wpQuiet_step
                    intro K hK
                    go_simp
                    first
                     | (refine hK _ ?_; clear hK K)
                     | (apply Exists.intro
                        refine ⟨fun w' hw' => ?_, hK _ ?_⟩
                        ·
                         (first
                          | with_reducible exact KFRW.out _ hw'
                          | with_reducible exact KHUW.out _ hw'
                          | (have l3 := blk_cell (blk_keep hw' HLQ.out) 3 _ rfl
                             go_simp
                             first | done | with_reducible exact rfl | with_reducible exact ⟨rfl, rfl⟩ | with_reducible exact KFRW.out _ hw' | with_reducible exact KHUW.out _ hw')
                          | (have y0 := cell_later (below_on HBwq.out hw') HZY.out.1
                             have y1 := cell_later (below_on HBwq.out hw') HZY.out.2.1
                             have y2 := cell_later (below_on HBwq.out hw') HZY.out.2.2.1
                             have y3 := cell_later (below_on HBwq.out hw') HZY.out.2.2.2.1
                             have y4 := cell_later (below_on HBwq.out hw') HZY.out.2.2.2.2.1
                             have y5 := cell_later (below_on HBwq.out hw') HZY.out.2.2.2.2.2
                             go_simp
                             first | done | with_reducible exact rfl | with_reducible exact ⟨rfl, rfl⟩ | with_reducible exact KFRW.out _ hw' | with_reducible exact KHUW.out _ hw')
                          | (have z0 := cell_later (below_on HBwq.out hw') HZX.out.1
                             have z1 := cell_later (below_on HBwq.out hw') HZX.out.2.1
                             have z2 := cell_later (below_on HBwq.out hw') HZX.out.2.2.1
                             have z3 := cell_later (below_on HBwq.out hw') HZX.out.2.2.2
                             go_simp
                             first | done | with_reducible exact rfl | with_reducible exact ⟨rfl, rfl⟩ | with_reducible exact KFRW.out _ hw' | with_reducible exact KHUW.out _ hw')
                          | (have s1 := blk_cell (blk_keep hw' HSQ.out) 1 _ (st_1 S)
                             go_simp
                             first | done | with_reducible exact rfl | with_reducible exact ⟨rfl, rfl⟩ | with_reducible exact KFRW.out _ hw' | with_reducible exact KHUW.out _ hw')
                          | (have s2 := blk_cell (blk_keep hw' HSQ.out) 2 _ (st_2 S)
                             go_simp
                             first | done | with_reducible exact rfl | with_reducible exact ⟨rfl, rfl⟩ | with_reducible exact KFRW.out _ hw' | with_reducible exact KHUW.out _ hw')
                          | (have s3 := blk_cell (blk_keep hw' HSQ.out) (3 + k) _ HTM.out
                             go_simp
                             first | done | with_reducible exact rfl | with_reducible exact ⟨rfl, rfl⟩ | with_reducible exact KFRW.out _ hw' | with_reducible exact KHUW.out _ hw'))
                        clear hK K))
                refine wpQuiet_nil ?_
                intro w7 hw7
                have HB7 := Lib.hid (below_on HBQ2.out hw7)
                clear hw7
                clear hb1 hb2 e1 e64 m1 m2 hn4 hix hix2
                go_wp2_with fail
                rw [← HYY.out]
                go_roundg (n4 - (k + 1))
                case rel => exact ⟨k + 1, k_next HK.out HLK.out, by go_num, HB7.out⟩
                case measure => exact k_less HK.out HLK.out
              | false =>
                rw [HBU.out] at hb1
                have htz : S.tm k = 0 := HTMZ.out.resolve_left (fun h => by rw [HBU.out] at h; cases h)
                have HTM : Hid ((stL S).toArray[3 + k]? = some (.int .u8 0)) := Lib.hid (by rw [HTM.out, htz]; rfl)
                clear htz
                obtain ⟨bc, hbc⟩ : ∃ b, hasBit S.ca k = b := ⟨_, rfl⟩
                have HBC := Lib.hid hbc
                rw [hbc] at hb2
                clear hbc
                cases bc with
                | true =>
                  go_upto_region 17 with fail
                  refine wp_region_calm (by kernel_rfl) ?_ ?_
                  ·kernel_rfl
                  repeat first
                   | go_big_quiet_skip
                   | (go_big_quiet_want; go_big_quiet_op; go_big_quiet_on)
                   | (with_reducible apply wpQuiet_step
                      intro K hK
                      go_simp
                      first
                       | (refine hK _ ?_; clear hK K)
                       | (apply Exists.intro
                          refine ⟨fun w' hw' => ?_, hK _ ?_⟩
                          ·
                           (first
                            | with_reducible exact KFRW.out _ hw'
                            | with_reducible exact KHUW.out _ hw'
                            | (have l3 := blk_cell (blk_keep hw' HLQ.out) 3 _ rfl
                               go_simp
                               first | done | with_reducible exact rfl | with_reducible exact ⟨rfl, rfl⟩ | with_reducible exact KFRW.out _ hw' | with_reducible exact KHUW.out _ hw')
                            | (have y0 := cell_later (below_on HBwq.out hw') HZY.out.1
                               have y1 := cell_later (below_on HBwq.out hw') HZY.out.2.1
                               have y2 := cell_later (below_on HBwq.out hw') HZY.out.2.2.1
                               have y3 := cell_later (below_on HBwq.out hw') HZY.out.2.2.2.1
                               have y4 := cell_later (below_on HBwq.out hw') HZY.out.2.2.2.2.1
                               have y5 := cell_later (below_on HBwq.out hw') HZY.out.2.2.2.2.2
                               go_simp
                               first | done | with_reducible exact rfl | with_reducible exact ⟨rfl, rfl⟩ | with_reducible exact KFRW.out _ hw' | with_reducible exact KHUW.out _ hw')
                            | (have z0 := cell_later (below_on HBwq.out hw') HZX.out.1
                               have z1 := cell_later (below_on HBwq.out hw') HZX.out.2.1
                               have z2 := cell_later (below_on HBwq.out hw') HZX.out.2.2.1
                               have z3 := cell_later (below_on HBwq.out hw') HZX.out.2.2.2
                               go_simp
                               first | done | with_reducible exact rfl | with_reducible exact ⟨rfl, rfl⟩ | with_reducible exact KFRW.out _ hw' | with_reducible exact KHUW.out _ hw')
                            | (have s1 := blk_cell (blk_keep hw' HSQ.out) 1 _ (st_1 S)
                               go_simp
                               first | done | with_reducible exact rfl | with_reducible exact ⟨rfl, rfl⟩ | with_reducible exact KFRW.out _ hw' | with_reducible exact KHUW.out _ hw')
                            | (have s2 := blk_cell (blk_keep hw' HSQ.out) 2 _ (st_2 S)
                               go_simp
                               first | done | with_reducible exact rfl | with_reducible exact ⟨rfl, rfl⟩ | with_reducible exact KFRW.out _ hw' | with_reducible exact KHUW.out _ hw')
                            | (have s3 := blk_cell (blk_keep hw' HSQ.out) (3 + k) _ HTM.out
                               go_simp
                               first | done | with_reducible exact rfl | with_reducible exact ⟨rfl, rfl⟩ | with_reducible exact KFRW.out _ hw' | with_reducible exact KHUW.out _ hw'))
                          clear hK K))
                  refine wpQuiet_nil ?_
                  intro w7 hw7
                  have HB7 := Lib.hid (below_on HBQ2.out hw7)
                  clear hw7
                  clear hb1 hb2 e1 e64 m1 m2 hn4 hix hix2
                  go_wp2_with fail
                  rw [← HYY.out]
                  go_roundg (n4 - (k + 1))
                  case rel => exact ⟨k + 1, k_next HK.out HLK.out, by go_num, HB7.out⟩
                  case measure => exact k_less HK.out HLK.out
                | false =>
                  have KASW := Lib.hid (KAS.out ((HASKD.out.resolve_left (fun h => by rw [HBU.out] at h; cases h)).resolve_left (fun h => by rw [HBC.out] at h; cases h)))
                  go_upto_region 17 with fail
                  refine wp_region_calm (by kernel_rfl) ?_ ?_
                  ·kernel_rfl
                  repeat first
                   | go_big_quiet_skip
                   | (go_big_quiet_want; go_big_quiet_op; go_big_quiet_on)
                   | (with_reducible apply wpQuiet_step
                      intro K hK
                      go_simp
                      first
                       | (refine hK _ ?_; clear hK K)
                       | (apply Exists.intro
                          refine ⟨fun w' hw' => ?_, hK _ ?_⟩
                          ·
                           (first
                            | with_reducible exact KFRW.out _ hw'
                            | with_reducible exact KHUW.out _ hw'
                            | with_reducible exact KASW.out _ hw'
                            | (have l3 := blk_cell (blk_keep hw' HLQ.out) 3 _ rfl
                               go_simp
                               first | done | with_reducible exact rfl | with_reducible exact ⟨rfl, rfl⟩ | with_reducible exact KFRW.out _ hw' | with_reducible exact KHUW.out _ hw' | with_reducible exact KASW.out _ hw')
                            | (have y0 := cell_later (below_on HBwq.out hw') HZY.out.1
                               have y1 := cell_later (below_on HBwq.out hw') HZY.out.2.1
                               have y2 := cell_later (below_on HBwq.out hw') HZY.out.2.2.1
                               have y3 := cell_later (below_on HBwq.out hw') HZY.out.2.2.2.1
                               have y4 := cell_later (below_on HBwq.out hw') HZY.out.2.2.2.2.1
                               have y5 := cell_later (below_on HBwq.out hw') HZY.out.2.2.2.2.2
                               go_simp
                               first | done | with_reducible exact rfl | with_reducible exact ⟨rfl, rfl⟩ | with_reducible exact KFRW.out _ hw' | with_reducible exact KHUW.out _ hw' | with_reducible exact KASW.out _ hw')
                            | (have z0 := cell_later (below_on HBwq.out hw') HZX.out.1
                               have z1 := cell_later (below_on HBwq.out hw') HZX.out.2.1
                               have z2 := cell_later (below_on HBwq.out hw') HZX.out.2.2.1
                               have z3 := cell_later (below_on HBwq.out hw') HZX.out.2.2.2
                               go_simp
                               first | done | with_reducible exact rfl | with_reducible exact ⟨rfl, rfl⟩ | with_reducible exact KFRW.out _ hw' | with_reducible exact KHUW.out _ hw' | with_reducible exact KASW.out _ hw')
                            | (have s1 := blk_cell (blk_keep hw' HSQ.out) 1 _ (st_1 S)
                               go_simp
                               first | done | with_reducible exact rfl | with_reducible exact ⟨rfl, rfl⟩ | with_reducible exact KFRW.out _ hw' | with_reducible exact KHUW.out _ hw' | with_reducible exact KASW.out _ hw')
                            | (have s2 := blk_cell (blk_keep hw' HSQ.out) 2 _ (st_2 S)
                               go_simp
                               first | done | with_reducible exact rfl | with_reducible exact ⟨rfl, rfl⟩ | with_reducible exact KFRW.out _ hw' | with_reducible exact KHUW.out _ hw' | with_reducible exact KASW.out _ hw')
                            | (have s3 := blk_cell (blk_keep hw' HSQ.out) (3 + k) _ HTM.out
                               go_simp
                               first | done | with_reducible exact rfl | with_reducible exact ⟨rfl, rfl⟩ | with_reducible exact KFRW.out _ hw' | with_reducible exact KHUW.out _ hw' | with_reducible exact KASW.out _ hw'))
                          clear hK K))
                  refine wpQuiet_nil ?_
                  intro w7 hw7
                  have HB7 := Lib.hid (below_on HBQ2.out hw7)
                  clear hw7
                  clear hb1 hb2 e1 e64 m1 m2 hn4 hix hix2
                  go_wp2_with fail
                  rw [← HYY.out]
                  go_roundg (n4 - (k + 1))
                  case rel => exact ⟨k + 1, k_next HK.out HLK.out, by go_num, HB7.out⟩
                  case measure => exact k_less HK.out HLK.out
         ·have d4 : ¬ ((k : Int) < (n4 : Int)) := by omega
          clear hlk
          go_upto_region 19 with fail
          clear l3 d4
          have HLD := Lib.hid (load_st HTQ0.out)
          obtain ⟨hst, hq9, ho9⟩ := store_st (s' := NS) HSQ0.out
          have HST := Lib.hid hst
          have HQ9 := Lib.hid hq9
          have HBZ : Hid (Below w1.heap.size w1 (wr.setCells gs 0 (stL NS))) := Lib.hid (Only.below (below_on HB7.out HBQ.out) HGS1.out (below_on HB7.out HBQ.out).size ho9)
          obtain ⟨VZ, hVZ⟩ : ∃ V', V' = wr.setCells gs 0 (stL NS) := ⟨_, rfl⟩
          rw [← hVZ] at HST HQ9 HBZ
          clear hst hq9 ho9 hVZ
          go_upto_region 7 with (first
           | ((with_reducible refine wpList_load_is (op := ⟨some 137, _, _, _, _, _⟩) rfl 32 _ rfl _ _ ?_ HLD.out ?_); (· rfl))
           | ((with_reducible refine wpList_store_is (op := ⟨none, .store 32 _ _, _, _, _, _⟩) rfl 32 _ _ rfl _ _ ?_ ?_ _ HST.out ?_); (· rfl); (· rfl)))
          (try simp only [Act.put])
          go_wp2_with fail
          go_roundg (n - (i + 1))
          case rel => exact ⟨i + 1, NS, k_next HI.out HLT.out, by go_num, HRN.out, HQ9.out, HBZ.out⟩
          case measure => exact k_less HI.out HLT.out
     ·have d2 : ¬ ((i : Int) < (n : Int)) := by omega
      clear hlt
      go_wp2_with fail
      refine (works_is _).mono ?_
      rintro e wz ⟨rfl, hb⟩
      have HBE := Lib.hid (below_on HB1.out (below_on HB.out hb))
      clear hb
      go_wp2_with fail
      go_ret
      exact ⟨rfl, HBE.out⟩
theorem walk_IlxaRun (v0 : Array Value) (a1 : Option Addr) (len1 cap1 : Nat) (w : World) (_s0 : v0.size = Try.prog.cellsOf 27) (w0 : Rd Try.prog w 27 v0.toList) (w1 : Rd Try.prog w 65 [.slice a1 len1 cap1]) :
 Calls Try.prog 7 #[.agg v0, .slice a1 len1 cap1] w fun e w' => e = .returned (.bool true) ∧ Below w.heap.size w w' := by
 obtain ⟨L, hv, hL⟩ := lay_of w0
 obtain rfl : v0 = #[L.se.v, L.po.v, L.sg.v, L.rt.v] := by apply Array.toList_inj.1; rw [hv]
 obtain ⟨⟨xa, xc, X⟩, hx, hX, hxo⟩ := iqs_of w1
 unfold Sl.v at hx
 simp only [List.cons.injEq, Value.slice.injEq, and_true] at hx
 obtain ⟨rfl, rfl, rfl⟩ := hx
 exact ilxaRun_is L a1 X.length cap1 X w hL hX rfl hxo
end Go.Proofs.Ytjienmjpfklgeaa
