/-
 Layer 28: what a state leads to.
-/
import Derived.Test.YtpohoannggdbjaaMoC
import Derived.Test.YtpohoannggdbjaaIxL
namespace Go.Proofs.Ytpohoannggdbjaa
open Go.RowKit
set_option maxRecDepth 100000
theorem out_plain : Try.prog.stoodInHeld 35 = false := by kernel_rfl
theorem out_fields : (Try.prog.fieldsOf 35).toList.map (fun f => (f.name, f.type, f.offset)) = [("Proceed", 32, 0), ("Points", 33, 1)] := by kernel_rfl
theorem out_equal (k1 k2 n1 n2 : Int) (w : World) : (Op.equalIn 10000 35 (.agg #[.int .u64 k1, .int .u32 n1]) (.agg #[.int .u64 k2, .int .u32 n2])).run Try.prog w = .ok (k1 == k2 && n1 == n2) w := by
 rw [run_equalIn_agg w 9999 35 _ _ (by kernel_rfl) out_plain]
 have h := out_fields
 obtain ⟨f, L1, hL, hf, h1⟩ := List.map_eq_cons_iff.1 h
 obtain ⟨g, L2, hL1, hg, h2⟩ := List.map_eq_cons_iff.1 h1
 obtain rfl := List.map_eq_nil_iff.1 h2
 simp only [Prod.mk.injEq] at hf hg
 obtain ⟨a1, a2, a3⟩ := hf
 obtain ⟨b1, b2, b3⟩ := hg
 rw [hL, hL1]
 cases hk : k1 == k2 <;> cases hn : n1 == n2
 all_goals simp [Op.eqFields, a1, a2, a3, b1, b2, b3, part, go_sem, hk, hn]
theorem eql_out (k1 k2 n1 n2 : Int) (w : World) : (binOp .eql 35 (.agg #[.int .u64 k1, .int .u32 n1]) (.agg #[.int .u64 k2, .int .u32 n2])).run Try.prog w = .ok (.bool (k1 == k2 && n1 == n2)) w := by
 rw [run_eql_struct, out_equal]; rfl
/-- a row of what was shown -/
def shC (y : Sh) : List Value := [.bool y.st, .int .u64 (y.p : Int), .int .u32 (y.q : Int)]
attribute [local irreducible] Sl.v hasBit pw withBit woBit cyL stL stV tmL freeS ndBad maySet ptL setS mayCan canS canD nedS flipB mayMov movS comG relS rouS proS tidyS comsG rousS prosS nextG outS lnOk rightK rgtS eqS Mc.tb upd mayS checkS sideN
attribute [local irreducible] addS cycL leads shows stepT reachN
set_option maxHeartbeats 8000000 in
theorem after_is (bm bi bs bc bn r m : Nat) (x : Iv) (s NS : St) (OP PT : Nat) (sa : Option Addr) (k sc i : Nat) (Y : List Sh) (y : Sh) (N : List St) (w : World) (hm : w.heap[bm]? = some (.cells #[.pointer (some ⟨m, 0, none⟩)] 61)) (hi : w.heap[bi]? = some (.cells #[.int .u64 (x.oc : Int), .int .u32 (x.no : Int), .int .u32 (x.re : Int), .slice x.a x.len x.cap] 49)) (hs : w.heap[bs]? = some (.cells #[.slice sa k sc] 29)) (hc : w.heap[bc]? = some (.cells #[.int .i64 (i : Int)] 3)) (hn : w.heap[bn]? = some (.cells #[.map (some r)] 88)) (hN : MsAt w r N) (hY : RowAt 3 shC w sa Y) (hk : Y.length = k) (hy : Y[i]? = some y)
 (hst : ∀ V, Below w.heap.size w V → Calls Try.prog 11 #[.pointer (some ⟨m, 0, none⟩), .agg (stL s).toArray, .agg #[.int .u64 (x.oc : Int), .int .u32 (x.no : Int), .int .u32 (x.re : Int), .slice x.a x.len x.cap]] V fun e w' => e = .returned (.tuple #[.agg (stL NS).toArray, .agg #[.int .u64 (OP : Int), .int .u32 (PT : Int)]]) ∧ Below V.heap.size V w') :
 Calls Try.prog 22 #[.agg (stL s).toArray, .pointer (some ⟨bm, 0, none⟩), .pointer (some ⟨bi, 0, none⟩), .pointer (some ⟨bs, 0, none⟩), .pointer (some ⟨bc, 0, none⟩), .pointer (some ⟨bn, 0, none⟩)] w fun e w' => (∃ v, e = .returned v) ∧ MsAt w' r (if y.st || (OP == y.p && PT == y.q) then addS N NS else N) ∧ Only r w w' := by
 have hik : i < k := by rw [← hk]; exact (List.getElem?_eq_some_iff.1 hy).1
 have d1 : (0 : Int) ≤ i := by omega
 have d2 : (i : Int) < k := by omega
 rcases hY with hnil | ⟨sb, so, hsa, hcl⟩
 ·rw [hnil] at hy; cases hy
 subst hsa
 have z0 := hcl i _ hy 0 _ rfl
 have z1 := hcl i _ hy 1 _ rfl
 have z2 := hcl i _ hy 2 _ rfl
 rw [Nat.add_zero] at z0
 have HZ := Lib.hid (And.intro z0 (And.intro z1 z2))
 have HN := Lib.hid hn
 have HI := Lib.hid hi
 have HS := Lib.hid hs
 have HC := Lib.hid hc
 have HM := Lib.hid hm
 have HMS := Lib.hid hN
 have KST := Lib.hid hst
 have HD := Lib.hid (And.intro d1 d2)
 obtain ⟨b, hb⟩ : ∃ b, ((OP : Int) == (y.p : Int) && (PT : Int) == (y.q : Int)) = b := ⟨_, rfl⟩
 have HEQ : Hid (∀ w, (binOp .eql 35 (.agg #[.int .u64 (OP : Int), .int .u32 (PT : Int)]) (.agg #[.int .u64 (y.p : Int), .int .u32 (y.q : Int)])).run Try.prog w = .ok (.bool b) w) := Lib.hid (fun w => by rw [eql_out, hb])
 have HBB : Hid ((OP == y.p && PT == y.q) = b) := Lib.hid (by
  rw [← hb, Bool.eq_iff_iff]
  simp only [Bool.and_eq_true, beq_iff_eq]
  omega)
 obtain ⟨t, ht⟩ : ∃ t, y.st = t := ⟨_, rfl⟩
 rw [ht] at HZ ⊢
 rw [HBB.out]
 obtain ⟨R, hR⟩ : ∃ R, (if t || b then addS N NS else N) = R := ⟨_, rfl⟩
 rw [hR]
 have HR := Lib.hid hR
 clear hR ht
 clear hik d1 d2 hcl hy z0 z1 z2 hn hi hs hc hm hN hst hb hk
 go_enter Try.func22, Try.ntmps22
 go_upto_region 1 with fail
 refine name_last (os := [.cells (stL s).toArray 66]) (w0 := w) rfl ?_
 intro W hat hbw
 have q0 := hat 0 _ rfl
 rw [Nat.add_zero] at q0
 obtain ⟨g6, hg6⟩ : ∃ g, g = w.heap.size := ⟨_, rfl⟩
 rw [← hg6] at q0 ⊢
 have HQ6 := Lib.hid q0
 have HB0 := Lib.hid hbw
 have HLD := Lib.hid (load_st q0)
 have l1 := blk_cell (blk_keep hbw HM.out) 0 _ rfl
 have i0 := blk_cell (blk_keep hbw HI.out) 0 _ rfl
 have i1 := blk_cell (blk_keep hbw HI.out) 1 _ rfl
 have i2 := blk_cell (blk_keep hbw HI.out) 2 _ rfl
 have i3 := blk_cell (blk_keep hbw HI.out) 3 _ rfl
 clear hat hbw q0 hg6
 go_wp2_with ((with_reducible refine wpList_load_is (op := ⟨some 11, _, _, _, _, _⟩) rfl 66 _ rfl _ _ ?_ HLD.out ?_); (· rfl))
 refine (KST.out _ HB0.out).mono ?_
 rintro e w1 ⟨rfl, hb1⟩
 have HB1 := Lib.hid (below_on HB0.out hb1)
 clear hb1 l1 i0 i1 i2 i3 HLD HQ6 KST
 have ha := allocs_at [.cells (stL zS).toArray 66, .cells #[.int .u64 0, .int .u32 0] 35] w1
 have hal := allocs_below [.cells (stL zS).toArray 66, .cells #[.int .u64 0, .int .u32 0] 35] w1
 have q7 := ha 0 _ rfl
 have q8 := ha 1 _ rfl
 rw [Nat.add_zero] at q7
 obtain ⟨hst, hq9, ho9⟩ := store_st (s' := NS) q7
 have HST := Lib.hid hst
 have HTT := Lib.hid hq9
 have HV1 : Hid (Below w1.heap.size w1 ((List.foldl World.alloc w1 [.cells (stL zS).toArray 66, .cells #[.int .u64 0, .int .u32 0] 35]).setCells w1.heap.size 0 (stL NS))) := Lib.hid (Only.below hal (Nat.le_refl _) hal.size ho9)
 have HX := Lib.hid (Only.keep ho9 (by omega) q8)
 obtain ⟨VA, hVA⟩ : ∃ V', V' = (List.foldl World.alloc w1 [.cells (stL zS).toArray 66, .cells #[.int .u64 0, .int .u32 0] 35]).setCells w1.heap.size 0 (stL NS) := ⟨_, rfl⟩
 rw [← hVA] at HST HTT HV1 HX
 simp only [List.foldl_cons, List.foldl_nil] at HST
 obtain ⟨g7, hg7⟩ : ∃ g, g = w1.heap.size := ⟨_, rfl⟩
 have HG7 : Hid (w1.heap.size ≤ g7) := Lib.hid (by omega)
 clear ha hal q7 q8 hst hq9 ho9 hVA
 have x0 := blk_cell HX.out 0 _ rfl
 have x1 := blk_cell HX.out 1 _ rfl
 have f0 := blk_free HX.out 0
 have f1 := blk_free HX.out 1
 have hl := blk_lt HX.out
 go_upto_region 2 with (first
  | rw [zero_st]
  | ((with_reducible refine wpList_store_is (op := ⟨none, .store 66 _ _, _, _, _, _⟩) rfl 66 _ _ rfl _ _ ?_ ?_ _ HST.out ?_); (· rfl); (· rfl)))
 (try simp only [Act.put, List.setIfInBounds_toArray, List.set_cons_zero, List.set_cons_succ])
 rw [← hg7] at HTT HX ⊢
 clear HST x0 x1 f0 f1 hl hg7
 obtain ⟨VB, hVB⟩ : ∃ V, V = (VA.setCell ⟨g7 + 1, 0, none⟩ (.int .u64 (OP : Int))).setCell ⟨g7 + 1, 1, none⟩ (.int .u32 (PT : Int)) := ⟨_, rfl⟩
 rw [← hVB]
 have ho : Only (g7 + 1) VA VB := by rw [hVB]; exact ((Only.refl (g7 + 1) VA).setCell rfl _).setCell rfl _
 have HOB : Hid (VB.heap[g7 + 1]? = some (.cells #[.int .u64 (OP : Int), .int .u32 (PT : Int)] 35)) := Lib.hid (by rw [hVB]; exact blk_set (blk_set HX.out 0 _) 1 _)
 have HTB := Lib.hid (Only.keep ho (by omega) HTT.out)
 have HVB : Hid (Below w1.heap.size w1 VB) := Lib.hid (Only.below HV1.out (by have := HG7.out; omega) HV1.out.size ho)
 have HBV := Lib.hid (below_on HB1.out HVB.out)
 have HMV := Lib.hid (HMS.out.below HBV.out)
 have HNV := Lib.hid (blk_keep HBV.out HN.out)
 have HSV := Lib.hid (blk_keep HBV.out HS.out)
 have HCV := Lib.hid (blk_keep HBV.out HC.out)
 have HZV := Lib.hid (And.intro (cell_later HBV.out HZ.out.1) (And.intro (cell_later HBV.out HZ.out.2.1) (cell_later HBV.out HZ.out.2.2)))
 have d1 := HD.out.1
 have d2 := HD.out.2
 clear ho hVB HX HTT HV1 HVB HN HS HC HZ HMS HB1 HB0
 cases t with
 | true =>
   have s0 := blk_cell HSV.out 0 _ rfl
   have c0 := blk_cell HCV.out 0 _ rfl
   have z0 := HZV.out.1
   go_quiet (fail)
   obtain ⟨w7, h7⟩ : ∃ V, V = VB.drewN nq := ⟨_, rfl⟩
   have hw7 : Below VB.heap.size VB w7 := by rw [h7]; exact below_drewN (Below.refl _ _) nq
   rw [← h7]
   have HM7 := Lib.hid (HMV.out.below hw7)
   have HT7 := Lib.hid (blk_keep hw7 HTB.out)
   have HN7 := Lib.hid (blk_keep hw7 HNV.out)
   have HB7 := Lib.hid (below_on HBV.out hw7)
   clear h7 hw7 s0 c0 z0 d1 d2
   obtain ⟨w9, hup, hms9, ho9⟩ := run_ms_put NS HM7.out
   unfold stV at hup
   have HF : Hid (MsAt w9 r (addS N NS) ∧ Only r w w9) := Lib.hid ⟨hms9, (Only.of_below HB7.out).trans ho9⟩
   have HLD := Lib.hid (load_st HT7.out)
   have e5 := blk_cell HN7.out 0 _ rfl
   clear hms9 ho9
   go_wp2_with ((with_reducible refine wpList_load_is (op := ⟨some 31, _, _, _, _, _⟩) rfl 66 _ rfl _ _ ?_ HLD.out ?_); (· rfl))
   go_end0
   exact ⟨⟨_, rfl⟩, by rw [← HR.out]; exact HF.out⟩
 | false =>
   have heq := HEQ.out
   have KNO := Lib.hid (fun (w' : World) (_ : Below VB.heap.size VB w') => trivial)
   cases b with
   | true =>
     go_upto_region 2 with fail
     refine wp_region_calm (by kernel_rfl) ?_ ?_
     ·kernel_rfl
     repeat first
      | go_big_quiet_skip
      | (go_big_quiet_want; go_big_quiet_op; go_big_quiet_on)
      | (with_reducible apply wpQuiet_step
         intro K hK
         go_simp
         first
          | (refine hK _ ?_; clear hK K)
          | (apply Exists.intro
             refine ⟨fun w' hw' => ?_, hK _ ?_⟩
             ·
              (first
               | with_reducible exact KNO.out _ hw'
               | (have s0 := blk_cell (blk_keep hw' HSV.out) 0 _ rfl
                  go_simp
                  first | done | with_reducible exact rfl | with_reducible exact ⟨rfl, rfl⟩ | with_reducible exact KNO.out _ hw')
               | (have c0 := blk_cell (blk_keep hw' HCV.out) 0 _ rfl
                  go_simp
                  first | done | with_reducible exact rfl | with_reducible exact ⟨rfl, rfl⟩ | with_reducible exact KNO.out _ hw')
               | (have o0 := blk_cell (blk_keep hw' HOB.out) 0 _ rfl
                  have o1 := blk_cell (blk_keep hw' HOB.out) 1 _ rfl
                  go_simp
                  first | done | with_reducible exact rfl | with_reducible exact ⟨rfl, rfl⟩ | with_reducible exact KNO.out _ hw')
               | (have z0 := cell_later hw' HZV.out.1
                  have z1 := cell_later hw' HZV.out.2.1
                  have z2 := cell_later hw' HZV.out.2.2
                  go_simp
                  first | done | with_reducible exact rfl | with_reducible exact ⟨rfl, rfl⟩ | with_reducible exact KNO.out _ hw'))
             clear hK K))
     refine wpQuiet_nil ?_
     intro w7 hw7
     have HM7 := Lib.hid (HMV.out.below hw7)
     have HT7 := Lib.hid (blk_keep hw7 HTB.out)
     have HN7 := Lib.hid (blk_keep hw7 HNV.out)
     have HB7 := Lib.hid (below_on HBV.out hw7)
     clear hw7
     clear heq d1 d2
     obtain ⟨w9, hup, hms9, ho9⟩ := run_ms_put NS HM7.out
     unfold stV at hup
     have HF : Hid (MsAt w9 r (addS N NS) ∧ Only r w w9) := Lib.hid ⟨hms9, (Only.of_below HB7.out).trans ho9⟩
     have HLD := Lib.hid (load_st HT7.out)
     have e5 := blk_cell HN7.out 0 _ rfl
     clear hms9 ho9
     go_wp2_with ((with_reducible refine wpList_load_is (op := ⟨some 31, _, _, _, _, _⟩) rfl 66 _ rfl _ _ ?_ HLD.out ?_); (· rfl))
     go_end0
     exact ⟨⟨_, rfl⟩, by rw [← HR.out]; exact HF.out⟩
   | false =>
     go_upto_region 2 with fail
     refine wp_region_calm (by kernel_rfl) ?_ ?_
     ·kernel_rfl
     repeat first
      | go_big_quiet_skip
      | (go_big_quiet_want; go_big_quiet_op; go_big_quiet_on)
      | (with_reducible apply wpQuiet_step
         intro K hK
         go_simp
         first
          | (refine hK _ ?_; clear hK K)
          | (apply Exists.intro
             refine ⟨fun w' hw' => ?_, hK _ ?_⟩
             ·
              (first
               | with_reducible exact KNO.out _ hw'
               | (have s0 := blk_cell (blk_keep hw' HSV.out) 0 _ rfl
                  go_simp
                  first | done | with_reducible exact rfl | with_reducible exact ⟨rfl, rfl⟩ | with_reducible exact KNO.out _ hw')
               | (have c0 := blk_cell (blk_keep hw' HCV.out) 0 _ rfl
                  go_simp
                  first | done | with_reducible exact rfl | with_reducible exact ⟨rfl, rfl⟩ | with_reducible exact KNO.out _ hw')
               | (have o0 := blk_cell (blk_keep hw' HOB.out) 0 _ rfl
                  have o1 := blk_cell (blk_keep hw' HOB.out) 1 _ rfl
                  go_simp
                  first | done | with_reducible exact rfl | with_reducible exact ⟨rfl, rfl⟩ | with_reducible exact KNO.out _ hw')
               | (have z0 := cell_later hw' HZV.out.1
                  have z1 := cell_later hw' HZV.out.2.1
                  have z2 := cell_later hw' HZV.out.2.2
                  go_simp
                  first | done | with_reducible exact rfl | with_reducible exact ⟨rfl, rfl⟩ | with_reducible exact KNO.out _ hw'))
             clear hK K))
     refine wpQuiet_nil ?_
     intro w7 hw7
     have HM7 := Lib.hid (HMV.out.below hw7)
     have HT7 := Lib.hid (blk_keep hw7 HTB.out)
     have HN7 := Lib.hid (blk_keep hw7 HNV.out)
     have HB7 := Lib.hid (below_on HBV.out hw7)
     clear hw7
     clear heq d1 d2
     go_wp2_with fail
     go_end0
     exact ⟨⟨_, rfl⟩, by rw [← HR.out]; exact HM7.out, Only.of_below HB7.out⟩
end Go.Proofs.Ytpohoannggdbjaa
