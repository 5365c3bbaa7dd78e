/-
 Layer 28: ModelBegins.
-/
import Derived.Test.YtpohoannggdbjaaMoI
import Derived.Test.YtpohoannggdbjaaMoJ
import Derived.Test.YtpohoannggdbjaaMoL
namespace Go.Proofs.Ytpohoannggdbjaa
open Go.RowKit
set_option maxRecDepth 100000
theorem row_take {α : Type} {sz : Nat} {f : α → List Value} {w : World} {a : Option Addr} {l : List α} (h : RowAt sz f w a l) (k : Nat) : RowAt sz f w a (l.take k) := by
 rcases h with rfl | ⟨b, off, h1, h2⟩
 ·exact .inl List.take_nil
 ·refine .inr ⟨b, off, h1, fun i c hi j v hv => h2 i c ?_ j v hv⟩
  rw [List.getElem?_take] at hi
  split at hi
  ·exact hi
  ·cases hi
attribute [local irreducible] Sl.v hasBit pw withBit woBit cyL stL stV tmL freeS ndBad maySet ptL setS mayCan canS canD nedS flipB mayMov movS comG relS rouS proS tidyS comsG rousS prosS nextG outS lnOk rightK rgtS eqS Mc.tb upd mayS checkS sideN
attribute [local irreducible] addS cycL leads shows stepT reachN
attribute [local irreducible] tbL rwL secOf cofL zS zSt explS fewS weightS wkX runS stR ouR outL stopsL stopSh noSh
set_option maxHeartbeats 16000000 in
theorem modelBegins_is (L : Lay) (ra : Option Addr) (n rc : Nat) (sa : Option Addr) (k sc : Nat) (X : List Iv) (Y : List Sh) (N : Int) (w : World) (hL : LayAt w L) (hX : SlAt 4 ivC w ⟨ra, rc, X⟩) (hxn : X.length = n) (hxo : ∀ x ∈ X, IvOk w x) (hY : SlAt 3 shC w ⟨sa, sc, Y⟩) (hyn : Y.length = k) :
 Calls Try.prog 3 #[.agg #[L.se.v, L.po.v, L.sg.v, L.rt.v], .slice ra n rc, .slice sa k sc, .int .i64 N] w fun e w' => e = .returned (.bool true) ∧ Below w.heap.size w w' := by
 obtain ⟨n1, hn1⟩ : ∃ n, L.se.l.length = n := ⟨_, rfl⟩
 obtain ⟨n2, hn2⟩ : ∃ n, L.po.l.length = n := ⟨_, rfl⟩
 obtain ⟨n3, hn3⟩ : ∃ n, L.sg.l.length = n := ⟨_, rfl⟩
 obtain ⟨n4, hn4⟩ : ∃ n, L.rt.l.length = n := ⟨_, rfl⟩
 obtain ⟨b1, hb1⟩ : ∃ b, fewS L X 10 = b := ⟨_, rfl⟩
 have KF : Hid (∀ V, Below w.heap.size w V → Calls Try.prog 4 #[.agg #[L.se.v, L.po.v, L.sg.v, L.rt.v], .slice ra n rc, .int .i64 10] V fun e w' => e = .returned (.bool b1) ∧ Below V.heap.size V w') := Lib.hid (fun V hV => few_is L ra n rc 10 X b1 V (hL.below hV) (hX.row.below hV) hxn (by omega) hb1)
 cases b1 with
 | false =>
   rw [slv hn1, slv hn2, slv hn3, slv hn4] at KF ⊢
   clear hn1 hn2 hn3 hn4 hL hb1 hX hxn hxo hY hyn
   go_enter Try.func3, Try.ntmps3
   go_upto_region 1 with fail
   refine name_last (os := [.cells #[.slice L.se.a n1 L.se.c, .slice L.po.a n2 L.po.c, .slice L.sg.a n3 L.sg.c, .slice L.rt.a n4 L.rt.c] 27]) (w0 := w) rfl ?_
   intro W hat hbw
   obtain ⟨gl, hgl⟩ : ∃ g, g = w.heap.size := ⟨_, rfl⟩
   have q0 := hat 0 _ rfl
   rw [Nat.add_zero, ← hgl] at q0
   rw [← hgl]
   have HQl := Lib.hid q0
   have HB0 := Lib.hid hbw
   clear hat hbw q0 hgl
   have l0 := blk_cell HQl.out 0 _ rfl
   have l1 := blk_cell HQl.out 1 _ rfl
   have l2 := blk_cell HQl.out 2 _ rfl
   have l3 := blk_cell HQl.out 3 _ rfl
   go_wp2_with fail
   refine (KF.out _ HB0.out).mono ?_
   rintro e w1 ⟨rfl, hb1⟩
   have HB1 := Lib.hid (below_on HB0.out hb1)
   have HL1 := Lib.hid (blk_keep hb1 HQl.out)
   clear hb1 l0 l1 l2 l3
   go_wp2_with fail
   refine (works_is _).mono ?_
   rintro e wz ⟨rfl, hbz⟩
   have HBE := Lib.hid (below_on HB1.out hbz)
   clear hbz
   go_wp2_with fail
   go_ret
   exact ⟨rfl, HBE.out⟩
 | true =>
   by_cases hk : 10 < k
   ·have d : (10 : Int) < (k : Int) := by omega
    rw [slv hn1, slv hn2, slv hn3, slv hn4] at KF ⊢
    clear hn1 hn2 hn3 hn4 hL hb1 hX hxn hxo hY hyn hk
    go_enter Try.func3, Try.ntmps3
    go_upto_region 1 with fail
    refine name_last (os := [.cells #[.slice L.se.a n1 L.se.c, .slice L.po.a n2 L.po.c, .slice L.sg.a n3 L.sg.c, .slice L.rt.a n4 L.rt.c] 27]) (w0 := w) rfl ?_
    intro W hat hbw
    obtain ⟨gl, hgl⟩ : ∃ g, g = w.heap.size := ⟨_, rfl⟩
    have q0 := hat 0 _ rfl
    rw [Nat.add_zero, ← hgl] at q0
    rw [← hgl]
    have HQl := Lib.hid q0
    have HB0 := Lib.hid hbw
    clear hat hbw q0 hgl
    have l0 := blk_cell HQl.out 0 _ rfl
    have l1 := blk_cell HQl.out 1 _ rfl
    have l2 := blk_cell HQl.out 2 _ rfl
    have l3 := blk_cell HQl.out 3 _ rfl
    go_wp2_with fail
    refine (KF.out _ HB0.out).mono ?_
    rintro e w1 ⟨rfl, hb1⟩
    have HB1 := Lib.hid (below_on HB0.out hb1)
    have HL1 := Lib.hid (blk_keep hb1 HQl.out)
    clear hb1 l0 l1 l2 l3
    go_wp2_with fail
    refine (works_is _).mono ?_
    rintro e wz ⟨rfl, hbz⟩
    have HBE := Lib.hid (below_on HB1.out hbz)
    clear hbz
    go_wp2_with fail
    go_ret
    exact ⟨rfl, HBE.out⟩
   ·have d : ¬ (10 : Int) < (k : Int) := by omega
    have dk : decide (10 < k) = false := decide_eq_false hk
    have hfew := few_ok hb1
    have HN10 : Hid (n ≤ 10) := Lib.hid (by omega)
    have hxo2 : ∀ x ∈ X, IvOk w x ∧ x.len ≤ 100000 := fun x hx => ⟨hxo x hx, by have := hfew.2 x hx; omega⟩
    obtain ⟨c, hc⟩ : ∃ c, (checkS L).1 = c := ⟨_, rfl⟩
    obtain ⟨b2, hb2⟩ : ∃ b, explS L X Y = b := ⟨_, rfl⟩
    have KR : Hid (∀ V, Below w.heap.size w V → Calls Try.prog 6 #[.agg #[L.se.v, L.po.v, L.sg.v, L.rt.v], .slice ra n rc] V fun e w' => ∃ v1 v2, e = .returned (.tuple #[v1, v2, .int .i64 c]) ∧ Below V.heap.size V w') := Lib.hid (fun V hV => by
     by_cases h0 : c = 0
     ·refine (run_is L ra n rc X V (hL.below hV) (hX.row.below hV) hxn (fun x hx => ⟨(hxo2 x hx).1.below hV, (hxo2 x hx).2⟩) (by have := HN10.out; omega) (hc.trans h0)).mono ?_
      rintro e w' ⟨g1, g2, rfl, _, _, hb⟩
      exact ⟨_, _, by rw [h0], hb⟩
     ·refine (run_no L ra n rc V (hL.below hV) c hc h0).mono ?_
      rintro e w' ⟨rfl, hb⟩
      exact ⟨_, _, rfl, hb⟩)
    have KES : Hid (∀ V g, Below w.heap.size w V → RowAt 3 shC V (some ⟨g, 0, none⟩) (List.replicate n stopSh) → Calls Try.prog 7 #[.agg #[L.se.v, L.po.v, L.sg.v, L.rt.v], .slice ra n rc, .slice (some ⟨g, 0, none⟩) n n] V fun e w' => e = .returned (.bool (decide (c = 0))) ∧ Below V.heap.size V w') := Lib.hid (fun V g hV hr => explains_is L ra n rc _ n n X (List.replicate n stopSh) _ V (hL.below hV) (hX.row.below hV) hxn (fun x hx => ⟨(hxo2 x hx).1.below hV, (hxo2 x hx).2⟩) hr List.length_replicate (by have := HN10.out; omega) (by rw [← hxn, expl_stops, hc]))
    have KE : Hid (∀ V, Below w.heap.size w V → Calls Try.prog 7 #[.agg #[L.se.v, L.po.v, L.sg.v, L.rt.v], .slice ra n rc, .slice sa k sc] V fun e w' => e = .returned (.bool b2) ∧ Below V.heap.size V w') := Lib.hid (fun V hV => explains_is L ra n rc sa k sc X Y b2 V (hL.below hV) (hX.row.below hV) hxn (fun x hx => ⟨(hxo2 x hx).1.below hV, (hxo2 x hx).2⟩) (hY.row.below hV) hyn (by have := HN10.out; omega) hb2)
    have KET : Hid (b2 = true → n = k ∧ ∀ q, q ≤ n → ∀ V rc' sc', Below w.heap.size w V → Calls Try.prog 7 #[.agg #[L.se.v, L.po.v, L.sg.v, L.rt.v], .slice ra q rc', .slice sa q sc'] V fun e w' => e = .returned (.bool true) ∧ Below V.heap.size V w') := Lib.hid (fun h => by
     subst h
     have h0 := (expl_take hb2 (Nat.le_refl _)).1
     refine ⟨by omega, fun q hq V rc' sc' hV => ?_⟩
     refine explains_is L ra q rc' sa q sc' (X.take q) (Y.take q) true V (hL.below hV) (row_take (hX.row.below hV) q) (by rw [List.length_take]; omega) (fun x hx => ⟨(hxo2 x (List.mem_of_mem_take hx)).1.below hV, (hxo2 x (List.mem_of_mem_take hx)).2⟩) (row_take (hY.row.below hV) q) (by rw [List.length_take]; omega) (by have := HN10.out; omega) (expl_take hb2 (by omega)).2)
    have HXS : Hid (n ≤ rc ∧ rc ≤ maxLen ∧ (ra = none → rc = 0)) := Lib.hid ⟨by have h : X.length ≤ rc := hX.len; omega, hX.cap, hX.capNil⟩
    have HYS : Hid (k ≤ sc ∧ sc ≤ maxLen ∧ (sa = none → sc = 0)) := Lib.hid ⟨by have h : Y.length ≤ sc := hY.len; omega, hY.cap, hY.capNil⟩
    rw [slv hn1, slv hn2, slv hn3, slv hn4] at KF KR KES KE KET ⊢
    clear hn1 hn2 hn3 hn4 hL hb1 hX hxn hxo hY hyn hk hfew hxo2 hc hb2
    have hmk := made_sh n HN10.out
    go_enter Try.func3, Try.ntmps3
    go_upto_region 1 with fail
    refine name_last (os := [.cells #[.slice L.se.a n1 L.se.c, .slice L.po.a n2 L.po.c, .slice L.sg.a n3 L.sg.c, .slice L.rt.a n4 L.rt.c] 27]) (w0 := w) rfl ?_
    intro W hat hbw
    obtain ⟨gl, hgl⟩ : ∃ g, g = w.heap.size := ⟨_, rfl⟩
    have q0 := hat 0 _ rfl
    rw [Nat.add_zero, ← hgl] at q0
    rw [← hgl]
    have HQl := Lib.hid q0
    have HB0 := Lib.hid hbw
    clear hat hbw q0 hgl
    have l0 := blk_cell HQl.out 0 _ rfl
    have l1 := blk_cell HQl.out 1 _ rfl
    have l2 := blk_cell HQl.out 2 _ rfl
    have l3 := blk_cell HQl.out 3 _ rfl
    go_wp2_with fail
    refine (KF.out _ HB0.out).mono ?_
    rintro e w1 ⟨rfl, hb1⟩
    have HB1 := Lib.hid (below_on HB0.out hb1)
    have HL1 := Lib.hid (blk_keep hb1 HQl.out)
    clear hb1 l0 l1 l2 l3
    have hlt1 := blk_lt HL1.out
    go_upto_region 4 with fail
    clear d hmk
    have hbn := below1 w1 (.cells (stopsL n 0).toArray 37)
    have hqn := alloc1 w1 (.cells (stopsL n 0).toArray 37) (Below.refl _ _)
    obtain ⟨W2, hW2⟩ : ∃ V, V = w1.alloc (.cells (stopsL n 0).toArray 37) := ⟨_, rfl⟩
    obtain ⟨gT, hgT⟩ : ∃ g, g = w1.heap.size := ⟨_, rfl⟩
    rw [← hW2] at hbn hqn ⊢
    rw [← hgT] at hqn ⊢
    have HBT := Lib.hid (below_on HB1.out hbn)
    have HB12 := Lib.hid hbn
    have HGT := Lib.hid hqn
    have HGL : Hid (w1.heap.size ≤ gT) := Lib.hid (by omega)
    clear hbn hqn hW2 hgT hlt1
    go_upto_region 5 with fail
    go_loopg [10] n (fun g v wr => ∃ i : Nat, i + g = n ∧ v = .int .i64 (i : Int) ∧ wr.heap[gT]? = some (.cells (stopsL n i).toArray 37) ∧ Below w1.heap.size w1 wr)
    case atStart => exact ⟨0, by omega, rfl, HGT.out, HB12.out⟩
    case round =>
     obtain ⟨i, hi, rfl, hgt, hbw⟩ := hrel
     have HI := Lib.hid hi
     have HG := Lib.hid hgt
     have HB := Lib.hid hbw
     clear hi hgt hbw
     by_cases hlt : i < n
     ·have d1 : (0 : Int) ≤ i := by omega
      have d2 : (i : Int) < n := by omega
      have e1 := k_succ hlt (Nat.le_trans HN10.out (by decide))
      have HLT := Lib.hid hlt
      have c0 := blk_cell HG.out (i * 3) _ (stops_cell hlt)
      have f0 := blk_free HG.out (i * 3)
      have hlg := blk_lt HG.out
      have HS : Hid ((wr.setCell ⟨gT, i * 3, none⟩ (.bool true)).heap[gT]? = some (.cells (stopsL n (i + 1)).toArray 37) ∧ Below w1.heap.size w1 (wr.setCell ⟨gT, i * 3, none⟩ (.bool true))) := Lib.hid ⟨by rw [← stops_set hlt]; exact blk_set HG.out _ _, Only.below HB.out HGL.out HB.out.size ((Only.refl gT wr).setCell rfl _)⟩
      clear hlt
      go_wp2_with fail
      clear c0 f0 hlg
      go_roundg (n - (i + 1))
      case rel => exact ⟨i + 1, k_next HI.out HLT.out, by go_num, HS.out.1, HS.out.2⟩
      case measure => exact k_less HI.out HLT.out
     ·have d2 : ¬ ((i : Int) < (n : Int)) := by omega
      obtain rfl : i = n := by have := HI.out; omega
      clear hlt
      have HBr := Lib.hid (below_on HB1.out HB.out)
      have HLr := Lib.hid (blk_keep HB.out HL1.out)
      have HRS := Lib.hid (stops_row HG.out)
      have l0 := blk_cell HLr.out 0 _ rfl
      have l1 := blk_cell HLr.out 1 _ rfl
      have l2 := blk_cell HLr.out 2 _ rfl
      have l3 := blk_cell HLr.out 3 _ rfl
      go_wp2_with fail
      refine (KR.out _ HBr.out).mono ?_
      rintro e w3 ⟨v1, v2, rfl, hb3⟩
      have HB3 := Lib.hid (below_on HBr.out hb3)
      have HL3 := Lib.hid (blk_keep hb3 HLr.out)
      have HRS3 := Lib.hid (HRS.out.below hb3)
      clear hb3 l0 l1 l2 l3 d2
      have l0 := blk_cell HL3.out 0 _ rfl
      have l1 := blk_cell HL3.out 1 _ rfl
      have l2 := blk_cell HL3.out 2 _ rfl
      have l3 := blk_cell HL3.out 3 _ rfl
      go_wp2_with fail
      refine (KES.out _ gT HB3.out HRS3.out).mono ?_
      rintro e w4 ⟨rfl, hb4⟩
      have HB4 := Lib.hid (below_on HB3.out hb4)
      have HL4 := Lib.hid (blk_keep hb4 HL3.out)
      clear hb4 l0 l1 l2 l3
      obtain ⟨bc, hbc⟩ : ∃ bc, (c == 0) = bc := ⟨_, rfl⟩
      have hbd : decide (c = 0) = bc := by rw [← hbc]; cases h : (c == 0) <;> simp_all
      rw [hbd]
      have hbn : (bc != bc) = false := by simp
      clear hbd
      have l0 := blk_cell HL4.out 0 _ rfl
      have l1 := blk_cell HL4.out 1 _ rfl
      have l2 := blk_cell HL4.out 2 _ rfl
      have l3 := blk_cell HL4.out 3 _ rfl
      go_wp2_with fail
      refine (KE.out _ HB4.out).mono ?_
      rintro e w5 ⟨rfl, hb5⟩
      have HB5 := Lib.hid (below_on HB4.out hb5)
      have HL5 := Lib.hid (blk_keep hb5 HL4.out)
      clear hb5 l0 l1 l2 l3 hbc hbn
      cases b2 with
      | false =>
        go_wp2_with fail
        refine (works_is _).mono ?_
        rintro e wz ⟨rfl, hbz⟩
        have HBE := Lib.hid (below_on HB5.out hbz)
        clear hbz
        go_wp2_with fail
        go_ret
        exact ⟨rfl, HBE.out⟩
      | true =>
        have KT := KET.out rfl
        obtain rfl := KT.1
        obtain ⟨q, hq1, hq2⟩ : ∃ q : Nat, N % ((i : Int) + 1) = (q : Int) ∧ q ≤ i := ⟨(N % ((i : Int) + 1)).toNat, by have := Int.emod_nonneg N (show ((i : Int) + 1) ≠ 0 by omega); omega, by have := Int.emod_lt_of_pos N (show (0 : Int) < (i : Int) + 1 by omega); omega⟩
        have KP : Hid (∀ V, Calls Try.prog 8 #[.int .i64 N, .int .i64 ((i : Int) + 1)] V fun e w' => e = .returned (.int .i64 (q : Int)) ∧ V = w') := Lib.hid (fun V => by
         have h := pick_any N ((i : Int) + 1) V (by omega) (by have := HN10.out; omega)
         rw [hq1] at h
         exact h)
        have KEQ : Hid (∀ rc' sc' w', Below w5.heap.size w5 w' → Calls Try.prog 7 #[.agg #[.slice L.se.a n1 L.se.c, .slice L.po.a n2 L.po.c, .slice L.sg.a n3 L.sg.c, .slice L.rt.a n4 L.rt.c], .slice ra q rc', .slice sa q sc'] w' fun e w'' => e = .returned (.bool true) ∧ Below w5.heap.size w5 w'') := Lib.hid (fun rc' sc' w' hw' => (KT.2 q hq2 w' rc' sc' (below_on HB5.out hw')).mono (fun _ _ h => ⟨h.1, below_on hw' h.2⟩))
        have KWQ : Hid (∀ w', Below w5.heap.size w5 w' → Calls Try.prog 5 #[] w' fun e w'' => e = .returned (.bool true) ∧ Below w5.heap.size w5 w'') := Lib.hid (fun w' hw' => (works_is w').mono (fun _ _ h => ⟨h.1, below_on hw' h.2⟩))
        have HQ2 := Lib.hid hq2
        have e1 := k_succ (Nat.lt_succ_self i) (show i + 1 ≤ _ by have := HN10.out; omega)
        clear KT hq1 hq2
        go_wp2_with fail
        refine (KP.out _).mono ?_
        rintro e w6 ⟨rfl, rfl⟩
        clear e1 KP KE KET KES KR KF
        go_upto_region 14 with fail
        have dq : (0 : Int) ≤ q := by omega
        have dq1 : (q : Int) ≤ rc := by have := HQ2.out; have := HXS.out.1; omega
        have dq2 : (q : Int) ≤ sc := by have := HQ2.out; have := HYS.out.1; omega
        cases ra with
        | none =>
          have hr0 : rc = 0 := HXS.out.2.2 rfl
          subst hr0
          obtain rfl : i = 0 := by have := HXS.out.1; omega
          obtain rfl : q = 0 := by have := HQ2.out; omega
          cases sa with
          | none =>
            have hs0 : sc = 0 := HYS.out.2.2 rfl
            subst hs0
            refine wp_region_calm (by kernel_rfl) ?_ ?_
            ·kernel_rfl
            repeat first
             | go_big_quiet_skip
             | (go_big_quiet_want; go_big_quiet_op; go_big_quiet_on)
             | (with_reducible apply wpQuiet_step
                intro K hK
                go_simp
                first
                 | (refine hK _ ?_; clear hK K)
                 | (apply Exists.intro
                    refine ⟨fun w' hw' => ?_, hK _ ?_⟩
                    ·
                     (first
                      | with_reducible exact KEQ.out _ _ _ hw'
                      | with_reducible exact KWQ.out _ hw'
                      | (have l0 := blk_cell (blk_keep hw' HL5.out) 0 _ rfl
                         have l1 := blk_cell (blk_keep hw' HL5.out) 1 _ rfl
                         have l2 := blk_cell (blk_keep hw' HL5.out) 2 _ rfl
                         have l3 := blk_cell (blk_keep hw' HL5.out) 3 _ rfl
                         go_simp
                         first | done | with_reducible exact rfl | with_reducible exact ⟨rfl, rfl⟩))
                    clear hK K))
            refine wpQuiet_nil ?_
            intro w7 hw7
            have HB7 := Lib.hid (below_on HB5.out hw7)
            clear hw7
            go_wp2_with fail
            go_ret
            exact ⟨rfl, HB7.out⟩
          | some ad =>
            refine wp_region_calm (by kernel_rfl) ?_ ?_
            ·kernel_rfl
            repeat first
             | go_big_quiet_skip
             | (go_big_quiet_want; go_big_quiet_op; go_big_quiet_on)
             | (with_reducible apply wpQuiet_step
                intro K hK
                go_simp
                first
                 | (refine hK _ ?_; clear hK K)
                 | (apply Exists.intro
                    refine ⟨fun w' hw' => ?_, hK _ ?_⟩
                    ·
                     (first
                      | with_reducible exact KEQ.out _ _ _ hw'
                      | with_reducible exact KWQ.out _ hw'
                      | (have l0 := blk_cell (blk_keep hw' HL5.out) 0 _ rfl
                         have l1 := blk_cell (blk_keep hw' HL5.out) 1 _ rfl
                         have l2 := blk_cell (blk_keep hw' HL5.out) 2 _ rfl
                         have l3 := blk_cell (blk_keep hw' HL5.out) 3 _ rfl
                         go_simp
                         first | done | with_reducible exact rfl | with_reducible exact ⟨rfl, rfl⟩))
                    clear hK K))
            refine wpQuiet_nil ?_
            intro w7 hw7
            have HB7 := Lib.hid (below_on HB5.out hw7)
            clear hw7
            go_wp2_with fail
            go_ret
            exact ⟨rfl, HB7.out⟩
        | some ar =>
          cases sa with
          | none =>
            have hs0 : sc = 0 := HYS.out.2.2 rfl
            subst hs0
            obtain rfl : i = 0 := by have := HYS.out.1; omega
            obtain rfl : q = 0 := by have := HQ2.out; omega
            refine wp_region_calm (by kernel_rfl) ?_ ?_
            ·kernel_rfl
            repeat first
             | go_big_quiet_skip
             | (go_big_quiet_want; go_big_quiet_op; go_big_quiet_on)
             | (with_reducible apply wpQuiet_step
                intro K hK
                go_simp
                first
                 | (refine hK _ ?_; clear hK K)
                 | (apply Exists.intro
                    refine ⟨fun w' hw' => ?_, hK _ ?_⟩
                    ·
                     (first
                      | with_reducible exact KEQ.out _ _ _ hw'
                      | with_reducible exact KWQ.out _ hw'
                      | (have l0 := blk_cell (blk_keep hw' HL5.out) 0 _ rfl
                         have l1 := blk_cell (blk_keep hw' HL5.out) 1 _ rfl
                         have l2 := blk_cell (blk_keep hw' HL5.out) 2 _ rfl
                         have l3 := blk_cell (blk_keep hw' HL5.out) 3 _ rfl
                         go_simp
                         first | done | with_reducible exact rfl | with_reducible exact ⟨rfl, rfl⟩))
                    clear hK K))
            refine wpQuiet_nil ?_
            intro w7 hw7
            have HB7 := Lib.hid (below_on HB5.out hw7)
            clear hw7
            go_wp2_with fail
            go_ret
            exact ⟨rfl, HB7.out⟩
          | some ad =>
            refine wp_region_calm (by kernel_rfl) ?_ ?_
            ·kernel_rfl
            repeat first
             | go_big_quiet_skip
             | (go_big_quiet_want; go_big_quiet_op; go_big_quiet_on)
             | (with_reducible apply wpQuiet_step
                intro K hK
                go_simp
                first
                 | (refine hK _ ?_; clear hK K)
                 | (apply Exists.intro
                    refine ⟨fun w' hw' => ?_, hK _ ?_⟩
                    ·
                     (first
                      | with_reducible exact KEQ.out _ _ _ hw'
                      | with_reducible exact KWQ.out _ hw'
                      | (have l0 := blk_cell (blk_keep hw' HL5.out) 0 _ rfl
                         have l1 := blk_cell (blk_keep hw' HL5.out) 1 _ rfl
                         have l2 := blk_cell (blk_keep hw' HL5.out) 2 _ rfl
                         have l3 := blk_cell (blk_keep hw' HL5.out) 3 _ rfl
                         go_simp
                         first | done | with_reducible exact rfl | with_reducible exact ⟨rfl, rfl⟩))
                    clear hK K))
            refine wpQuiet_nil ?_
            intro w7 hw7
            have HB7 := Lib.hid (below_on HB5.out hw7)
            clear hw7
            go_wp2_with fail
            go_ret
            exact ⟨rfl, HB7.out⟩
theorem walk_ModelBegins (v0 : Array Value) (a1 : Option Addr) (len1 cap1 : Nat) (a2 : Option Addr) (len2 cap2 : Nat) (N : Int) (w : World) (_s0 : v0.size = Try.prog.cellsOf 27) (w0 : Rd Try.prog w 27 v0.toList) (w1 : Rd Try.prog w 28 [.slice a1 len1 cap1]) (w2 : Rd Try.prog w 29 [.slice a2 len2 cap2]) (_w3 : (Lit.int .i64 N).wf = true) :
 Calls Try.prog 3 #[.agg v0, .slice a1 len1 cap1, .slice a2 len2 cap2, .int .i64 N] w fun e w' => e = .returned (.bool true) ∧ Below w.heap.size w w' := by
 obtain ⟨L, hv, hL⟩ := lay_of w0
 obtain rfl : v0 = #[L.se.v, L.po.v, L.sg.v, L.rt.v] := by apply Array.toList_inj.1; rw [hv]
 obtain ⟨⟨xa, xc, X⟩, hx, hX, hxo⟩ := ivs_of w1
 obtain ⟨⟨ya, yc, Y⟩, hy, hY, _⟩ := shs_of w2
 unfold Sl.v at hx hy
 simp only [List.cons.injEq, Value.slice.injEq, and_true] at hx hy
 obtain ⟨rfl, rfl, rfl⟩ := hx
 obtain ⟨rfl, rfl, rfl⟩ := hy
 exact modelBegins_is L a1 X.length cap1 a2 Y.length cap2 X Y N w hL hX rfl hxo hY rfl
end Go.Proofs.Ytpohoannggdbjaa
