/-
  Layer 06: the document's Table.
-/
import Derived.Test.YtififkielmddpaaCoM
namespace Go.Proofs.Ytififkielmddpaa
open Go.RowKit
set_option maxRecDepth 100000
theorem tab_take {L : Lay} {i : Nat} (h : i < L.rt.l.length) : ((tabS L).take (i + 1)).flatMap u64C = ((tabS L).take i).flatMap u64C ++ [.int .u64 (rowS L i : Int)] := by
  rw [List.take_add_one, tabS_get h, List.flatMap_append]
  rfl
attribute [local irreducible] hasI hasP dupI dupN okPt okPts secOf formedS Sl.v cntI ixF mayS conflictS pairS checkS growS rowS rrowS tabS cfS withBit pw zeros64 TbAt

set_option maxHeartbeats 8000000 in
theorem rtable_is (L : Lay) (w : World) (hL : LayAt w L) :
    Calls Try.prog 26 #[.agg #[L.se.v, L.po.v, L.sg.v, L.rt.v]] w fun e w' => ∃ a m c, e = .returned (.tuple #[.slice a m c, .int .i64 (checkS L).1]) ∧ m = (tabL L).length ∧ SlAt 1 u64C w' ⟨a, c, tabL L⟩ ∧ Below w.heap.size w w' := by
  obtain ⟨c, hc1⟩ : ∃ c, (checkS L).1 = c := ⟨_, rfl⟩
  obtain ⟨d, hd1⟩ : ∃ c, (checkS L).2 = c := ⟨_, rfl⟩
  have HCK : Hid (∀ W, Below w.heap.size w W → Calls Try.prog 45 #[.agg #[L.se.v, L.po.v, L.sg.v, L.rt.v]] W fun e w' => e = .returned (.tuple #[.int .i64 c, .int .i64 d]) ∧ Below W.heap.size W w') := Lib.hid (fun W hW => hc1 ▸ hd1 ▸ rcheck_is L W (hL.below hW))
  have HCF : Hid (mayS L = true → ∀ x ∈ L.rt.l, ∀ y ∈ L.rt.l, ∀ W, Below w.heap.size w W → Calls Try.prog 46 #[.agg #[L.se.v, L.po.v, L.sg.v, L.rt.v], .agg #[.string x.nm, .int .i64 x.sg, x.pa.v, x.po.v, x.ov.v, x.fl.v], .agg #[.string y.nm, .int .i64 y.sg, y.pa.v, y.po.v, y.ov.v, y.fl.v]] W fun e w' => e = .returned (.bool (conflictS L x y)) ∧ Below W.heap.size W w') := Lib.hid (fun hmay x hx y hy W hW => rconflict_may L x y W hmay (hL.below hW) hx hy)
  have HROW := Lib.hid hL.rt.row
  have HC1 := Lib.hid hc1
  clear hd1
  obtain ⟨n1, hn1⟩ : ∃ n, L.se.l.length = n := ⟨_, rfl⟩
  obtain ⟨n2, hn2⟩ : ∃ n, L.po.l.length = n := ⟨_, rfl⟩
  obtain ⟨n3, hn3⟩ : ∃ n, L.sg.l.length = n := ⟨_, rfl⟩
  obtain ⟨n4, hn4⟩ : ∃ n, L.rt.l.length = n := ⟨_, rfl⟩
  have HN4 := Lib.hid hn4
  rw [hc1]
  rw [slv hn1, slv hn2, slv hn3, slv hn4] at HCK HCF ⊢
  clear hn1 hn2 hn3 hn4 hL hc1
  obtain ⟨gl, hgl⟩ : ∃ g, g = w.heap.size := ⟨_, rfl⟩
  have HGL := Lib.hid hgl
  clear hgl
  go_enter Try.func26, Try.ntmps26
  go_wp2_with fail
  refine (HCK.out _ (below1 w _)).mono ?_
  rintro e w1 ⟨rfl, hb1⟩
  have hq := blk_keep hb1 (alloc1 w (.cells #[.slice L.se.a n1 L.se.c, .slice L.po.a n2 L.po.c, .slice L.sg.a n3 L.sg.c, .slice L.rt.a n4 L.rt.c] 27) (Below.refl _ _))
  have hbw := below_on (below1 w _) hb1
  rw [← HGL.out] at hq ⊢
  have HB1 := Lib.hid hbw
  have HQ := Lib.hid hq
  clear hb1 hbw hq HCK
  by_cases hc0 : c = 0
  rotate_left
  · have HT : Hid (tabL L = []) := Lib.hid (by unfold tabL; rw [HC1.out, if_neg hc0])
    go_wp2_with fail
    go_ret2
    exact ⟨none, 0, 0, rfl, by rw [HT.out]; rfl, by rw [HT.out]; exact sl_none, HB1.out⟩
  subst hc0
  have HT : Hid (tabL L = tabS L) := Lib.hid (by unfold tabL; rw [HC1.out, if_pos rfl])
  have HM : Hid (mayS L = true) := Lib.hid (cs_zero HC1.out)
  have HS : Hid (n4 ≤ 64) := Lib.hid (by have := mayS_small HM.out; have := HN4.out; omega)
  go_wp2_with fail
  go_loopg [6, 7] n4 (fun g v i wr => ∃ k : Nat, k + g = n4 ∧ i = .int .i64 (k : Int) ∧ wr.ownsRow (gl + 1) 33 1 v k (((tabS L).take k).flatMap u64C) ∧ wr.heap[gl]? = some (.cells #[.slice L.se.a n1 L.se.c, .slice L.po.a n2 L.po.c, .slice L.sg.a n3 L.sg.c, .slice L.rt.a n4 L.rt.c] 27) ∧ Below w.heap.size w wr)
  case atStart => exact ⟨0, by omega, rfl, World.ownsRow_nil _ _ _ _, HQ.out, HB1.out⟩
  case round =>
    obtain ⟨i, hi, rfl, ht, hq, hbw⟩ := hrel
    clear HQ HB1
    have HO := Lib.hid ht
    have HQ := Lib.hid hq
    have HB1 := Lib.hid hbw
    clear ht hq hbw
    have l3 := blk_cell HQ.out 3 _ rfl
    by_cases hlt : i < n4
    · have d1 : (0 : Int) ≤ i := by omega
      have d2 : (i : Int) < n4 := by omega
      have e1 := wsucc hlt HS.out
      have HI := Lib.hid hi
      have HLT := Lib.hid hlt
      rcases HROW.out with hnil | ⟨xb, off, hxb, hc0⟩
      · have := HN4.out; rw [hnil] at this; simp at this; omega
      have HCE := Lib.hid hc0
      obtain ⟨x, hyx⟩ : ∃ y, L.rt.l[i]? = some y := ⟨_, List.getElem?_eq_getElem (by rw [HN4.out]; exact hlt)⟩
      obtain ⟨p1, hp1⟩ : ∃ n, x.pa.l.length = n := ⟨_, rfl⟩
      obtain ⟨p2, hp2⟩ : ∃ n, x.po.l.length = n := ⟨_, rfl⟩
      obtain ⟨p3, hp3⟩ : ∃ n, x.ov.l.length = n := ⟨_, rfl⟩
      obtain ⟨p4, hp4⟩ : ∃ n, x.fl.l.length = n := ⟨_, rfl⟩
      have HZX : Hid ((w.cell? ⟨xb, off + i * 6, none⟩ = some (.string x.nm)) ∧ (w.cell? ⟨xb, off + i * 6 + 1, none⟩ = some (.int .i64 x.sg)) ∧ (w.cell? ⟨xb, off + i * 6 + 2, none⟩ = some (.slice x.pa.a p1 x.pa.c)) ∧ (w.cell? ⟨xb, off + i * 6 + 3, none⟩ = some (.slice x.po.a p2 x.po.c)) ∧ (w.cell? ⟨xb, off + i * 6 + 4, none⟩ = some (.slice x.ov.a p3 x.ov.c)) ∧ (w.cell? ⟨xb, off + i * 6 + 5, none⟩ = some (.slice x.fl.a p4 x.fl.c))) := by
        rw [← slv hp1, ← slv hp2, ← slv hp3, ← slv hp4]
        exact Lib.hid ⟨hc0 i _ hyx 0 _ rfl, hc0 i _ hyx 1 _ rfl, hc0 i _ hyx 2 _ rfl, hc0 i _ hyx 3 _ rfl, hc0 i _ hyx 4 _ rfl, hc0 i _ hyx 5 _ rfl⟩
      have HYX := Lib.hid hyx
      obtain ⟨X, hX⟩ : ∃ x, L.rt.a = x := ⟨_, rfl⟩
      have HXX := Lib.hid hX
      rw [hX] at HQ HCF hxb l3 ⊢
      subst hxb
      have HCX : Hid (∀ y ∈ L.rt.l, ∀ W, Below w.heap.size w W → Calls Try.prog 46 #[.agg #[.slice L.se.a n1 L.se.c, .slice L.po.a n2 L.po.c, .slice L.sg.a n3 L.sg.c, .slice (some ⟨xb, off, none⟩) n4 L.rt.c], .agg #[.string x.nm, .int .i64 x.sg, .slice x.pa.a p1 x.pa.c, .slice x.po.a p2 x.po.c, .slice x.ov.a p3 x.ov.c, .slice x.fl.a p4 x.fl.c], .agg #[.string y.nm, .int .i64 y.sg, y.pa.v, y.po.v, y.ov.v, y.fl.v]] W fun e w' => e = .returned (.bool (conflictS L x y)) ∧ Below W.heap.size W w') := Lib.hid (fun y hy W hW => by
        have := HCF.out HM.out x (List.mem_of_getElem? HYX.out) y hy W hW
        rw [slv hp1, slv hp2, slv hp3, slv hp4] at this
        exact this)
      clear hi hlt hyx hX hc0 HCF hp1 hp2 hp3 hp4
      go_upto_region 10 with fail
      clear l3
      obtain ⟨wq, rfl⟩ : ∃ wq, wq = wr := ⟨_, rfl⟩
      go_loopg [8, 9] n4 (fun g z j wr => ∃ k : Nat, k + g = n4 ∧ z = .int .u64 (rrowS L i k : Int) ∧ j = .int .i64 (k : Int) ∧ wr.ownsRow (gl + 1) 33 1 u6 i (((tabS L).take i).flatMap u64C) ∧ wr.heap[gl]? = some (.cells #[.slice L.se.a n1 L.se.c, .slice L.po.a n2 L.po.c, .slice L.sg.a n3 L.sg.c, .slice (some ⟨xb, off, none⟩) n4 L.rt.c] 27) ∧ Below w.heap.size w wr)
      case atStart => exact ⟨0, by omega, by rw [rrowS_zero]; rfl, rfl, HO.out, HQ.out, HB1.out⟩
      case round =>
        obtain ⟨k, hk, rfl, rfl, ht, hq, hbw⟩ := hrel
        clear HO HQ HB1
        have HO := Lib.hid ht
        have HQ := Lib.hid hq
        have HB1 := Lib.hid hbw
        clear ht hq hbw
        have HK := Lib.hid hk
        have l3 := blk_cell HQ.out 3 _ rfl
        by_cases hlk : k < n4
        · have d3 : (0 : Int) ≤ k := by omega
          have d4 : (k : Int) < n4 := by omega
          have e2 := wsucc hlk HS.out
          have HLK := Lib.hid hlk
          obtain ⟨A, hA⟩ : ∃ A, rrowS L i k = A := ⟨_, rfl⟩
          rw [hA]
          by_cases hik : i = k
          · have HAA := Lib.hid ((rrowS_no (L := L) (i := i) (k := k) (.inl hik)).trans hA)
            have hbn : ((i : Int) != (k : Int)) = false := by rw [hik]; simp
            clear hk hlk hA hik
            go_upto_region 12 with fail
            clear l3
            refine wp_region_calm (by kernel_rfl) ?_ ?_
            · kernel_rfl
            repeat first
             | go_big_quiet_skip
             | (go_big_quiet_want; go_big_quiet_op; go_big_quiet_on)
             | (with_reducible apply wpQuiet_step
                intro K hK
                go_simp
                first
                  | (refine hK _ ?_; clear hK K)
                  | (apply Exists.intro
                     refine ⟨fun w' hw' => ?_, hK _ ?_⟩
                     ·
                       (first
                        | (skip
                           go_simp
                           first | done | with_reducible exact rfl | with_reducible exact ⟨rfl, rfl⟩))
                     clear hK K))
            refine wpQuiet_nil ?_
            intro w7 hw7
            have HB7 := Lib.hid (below_on HB1.out hw7)
            have HQ7 := Lib.hid (blk_keep hw7 HQ.out)
            have HO7 := Lib.hid (own_below hw7 HO.out)
            clear hw7
            clear HQ HO HB1 hbn
            go_wp2_with fail
            go_roundg (n4 - (k + 1))
            case rel => exact ⟨k + 1, by have := HK.out; omega, by rw [HAA.out], by go_num, HO7.out, HQ7.out, HB7.out⟩
            case measure => have := HK.out; omega
          · have hbn : ((i : Int) != (k : Int)) = true := by rw [bne_iff_ne]; omega
            have hc := fun i c hi j v hv => cell_later HB1.out (HCE.out i c hi j v hv)
            obtain ⟨y, hyy⟩ : ∃ y, L.rt.l[k]? = some y := ⟨_, List.getElem?_eq_getElem (by rw [HN4.out]; exact hlk)⟩
            have y0 := hc k _ hyy 0 _ rfl
            have y1 := hc k _ hyy 1 _ rfl
            have y2 := hc k _ hyy 2 _ rfl
            have y3 := hc k _ hyy 3 _ rfl
            have y4 := hc k _ hyy 4 _ rfl
            have y5 := hc k _ hyy 5 _ rfl
            rw [Nat.add_zero] at y0
            obtain ⟨q1, hq1⟩ : ∃ n, y.pa.l.length = n := ⟨_, rfl⟩
            obtain ⟨q2, hq2⟩ : ∃ n, y.po.l.length = n := ⟨_, rfl⟩
            obtain ⟨q3, hq3⟩ : ∃ n, y.ov.l.length = n := ⟨_, rfl⟩
            obtain ⟨q4, hq4⟩ : ∃ n, y.fl.l.length = n := ⟨_, rfl⟩
            rw [slv hq1] at y2
            rw [slv hq2] at y3
            rw [slv hq3] at y4
            rw [slv hq4] at y5
            have HZB := Lib.hid (And.intro y0 (And.intro y1 (And.intro y2 (And.intro y3 (And.intro y4 y5)))))
            clear y0 y1 y2 y3 y4 y5
            have HZA : Hid _ := Lib.hid (And.intro (cell_later HB1.out HZX.out.1) (And.intro (cell_later HB1.out HZX.out.2.1) (And.intro (cell_later HB1.out HZX.out.2.2.1) (And.intro (cell_later HB1.out HZX.out.2.2.2.1) (And.intro (cell_later HB1.out HZX.out.2.2.2.2.1) (cell_later HB1.out HZX.out.2.2.2.2.2))))))
            have hcall := fun W (hW : Below wr.heap.size wr W) => HCX.out y (List.mem_of_getElem? hyy) W (below_on HB1.out hW)
            have hcf := cfS_at HYX.out hyy
            obtain ⟨D, hD⟩ : ∃ D, conflictS L x y = D := ⟨_, rfl⟩
            rw [hD] at hcall hcf
            have HCD := Lib.hid hcf
            rw [slv hq1, slv hq2, slv hq3, slv hq4] at hcall
            have HC : Hid (∀ W, Below wr.heap.size wr W → Calls Try.prog 46 #[.agg #[.slice L.se.a n1 L.se.c, .slice L.po.a n2 L.po.c, .slice L.sg.a n3 L.sg.c, .slice (some ⟨xb, off, none⟩) n4 L.rt.c], .agg #[.string x.nm, .int .i64 x.sg, .slice x.pa.a p1 x.pa.c, .slice x.po.a p2 x.po.c, .slice x.ov.a p3 x.ov.c, .slice x.fl.a p4 x.fl.c], .agg #[.string y.nm, .int .i64 y.sg, .slice y.pa.a q1 y.pa.c, .slice y.po.a q2 y.po.c, .slice y.ov.a q3 y.ov.c, .slice y.fl.a q4 y.fl.c]] W fun e w' => e = .returned (.bool D) ∧ Below wr.heap.size wr w') := Lib.hid (fun W hW => (hcall W hW).mono (fun e w9 h => ⟨h.1, below_on hW h.2⟩))
            have HIK := Lib.hid hik
            have HA := Lib.hid hA
            clear hcall hcf hD hyy hc hlk hk hq1 hq2 hq3 hq4 hik hA
            go_upto_region 12 with fail
            clear l3
            refine wp_region_calm (by kernel_rfl) ?_ ?_
            · kernel_rfl
            repeat first
             | go_big_quiet_skip
             | (go_big_quiet_want; go_big_quiet_op; go_big_quiet_on)
             | (with_reducible apply wpQuiet_step
                intro K hK
                go_simp
                first
                  | (refine hK _ ?_; clear hK K)
                  | (apply Exists.intro
                     refine ⟨fun w' hw' => ?_, hK _ ?_⟩
                     ·
                       (first
                        | with_reducible exact HC.out _ hw'
                        | (have g0 := blk_cell (blk_keep hw' HQ.out) 0 _ rfl
                           have g1 := blk_cell (blk_keep hw' HQ.out) 1 _ rfl
                           have g2 := blk_cell (blk_keep hw' HQ.out) 2 _ rfl
                           have g3 := blk_cell (blk_keep hw' HQ.out) 3 _ rfl
                           go_simp
                           first | done | with_reducible exact rfl | with_reducible exact ⟨rfl, rfl⟩ | with_reducible exact HC.out _ hw')
                        | (have h0 := cell_later hw' HZA.out.1
                           have h1 := cell_later hw' HZA.out.2.1
                           have h2 := cell_later hw' HZA.out.2.2.1
                           have h3 := cell_later hw' HZA.out.2.2.2.1
                           have h4 := cell_later hw' HZA.out.2.2.2.2.1
                           have h5 := cell_later hw' HZA.out.2.2.2.2.2
                           go_simp
                           first | done | with_reducible exact rfl | with_reducible exact ⟨rfl, rfl⟩ | with_reducible exact HC.out _ hw')
                        | (have f0 := cell_later hw' HZB.out.1
                           have f1 := cell_later hw' HZB.out.2.1
                           have f2 := cell_later hw' HZB.out.2.2.1
                           have f3 := cell_later hw' HZB.out.2.2.2.1
                           have f4 := cell_later hw' HZB.out.2.2.2.2.1
                           have f5 := cell_later hw' HZB.out.2.2.2.2.2
                           go_simp
                           first | done | with_reducible exact rfl | with_reducible exact ⟨rfl, rfl⟩ | with_reducible exact HC.out _ hw'))
                     clear hK K))
            refine wpQuiet_nil ?_
            intro w7 hw7
            have HB7 := Lib.hid (below_on HB1.out hw7)
            have HQ7 := Lib.hid (blk_keep hw7 HQ.out)
            have HO7 := Lib.hid (own_below hw7 HO.out)
            clear hw7
            clear HQ HO HB1 HC HZB HZA
            cases D with
            | false =>
              have HAA := Lib.hid ((rrowS_no (L := L) (i := i) (k := k) (.inr HCD.out)).trans HA.out)
              go_wp2_with fail
              go_roundg (n4 - (k + 1))
              case rel => exact ⟨k + 1, by have := HK.out; omega, by rw [HAA.out], by go_num, HO7.out, HQ7.out, HB7.out⟩
              case measure => have := HK.out; omega
            | true =>
              have hu := rrowS_yes HIK.out HCD.out
              obtain ⟨hs1, ho1⟩ := or_step (s := A) (n := k) (by have := HS.out; have := HLK.out; omega) (by rw [← HA.out]; exact rrowS_lt L i (by have := HS.out; have := HLK.out; omega))
              rw [HA.out] at hu
              obtain ⟨P, hP⟩ : ∃ P, pw k = P := ⟨_, rfl⟩
              obtain ⟨A1, hA1⟩ : ∃ A, rrowS L i (k + 1) = A := ⟨_, rfl⟩
              rw [← hu, hA1, hP] at ho1
              rw [hP] at hs1
              have hk64 : min k 64 = k := by have := HS.out; have := HLK.out; omega
              have HAA := Lib.hid hA1
              clear hu hP hA1
              go_wp2_with fail
              go_roundg (n4 - (k + 1))
              case rel => exact ⟨k + 1, by have := HK.out; omega, by rw [HAA.out], by go_num, HO7.out, HQ7.out, HB7.out⟩
              case measure => have := HK.out; omega
        · have hkn : n4 = k := by omega
          have hnk : ¬ k < n4 := hlk
          have hre : rrowS L i k = rowS L i := by rw [← hkn, ← HN4.out]; exact rrowS_end L i
          rw [hre]
          have HTT := Lib.hid (tab_take (L := L) (i := i) (by have := HN4.out; have := HLT.out; omega))
          obtain ⟨R, hR⟩ : ∃ R, rowS L i = R := ⟨_, rfl⟩
          rw [hR] at HTT ⊢
          have HRR := Lib.hid hR
          obtain ⟨XS, hXS⟩ : ∃ X, ((tabS L).take i).flatMap u64C = X := ⟨_, rfl⟩
          rw [hXS] at HTT HO
          obtain ⟨i0, hi, hz0, hz1, hz2⟩ := info_parts info_u64
          have HOW := Lib.hid (own_below (below1 wr (.cells #[.int .u64 (R : Int)] 33)) HO.out)
          have HBW := Lib.hid (below_on HB1.out (below1 wr (.cells #[.int .u64 (R : Int)] 33)))
          have HQW := Lib.hid (blk_keep (below1 wr (.cells #[.int .u64 (R : Int)] 33)) HQ.out)
          have hsz := blk_lt HQW.out
          have hin : i < 1000 := by have := HS.out; have := HLT.out; omega
          clear hre hR hXS hkn hk hlk
          go_wp2_with (at_builtin; refine wpList_append_src rfl _ _ 32 rfl (gl + 1) 33 i0 (.int .u64 0) 1 8 Try.underlying32 hi hz0 hz1 hz2 rfl (by decide) _ i XS rfl HOW.out (some ⟨wr.heap.size, 0, none⟩) 1 1 [.int .u64 (R : Int)] rfl rfl (src_one rfl (alloc1 wr _ (Below.refl _ _))) (by unfold maxLen; omega) (by omega) hsz ?_; intro v4 W4 hown4 hg4)
          have hB4 : Below w.heap.size w W4 := HBW.out.grown hg4 HBW.out.size (fun k hk => by have := (HOW.out.lt _ hk).1; have := HGL.out; omega)
          have hQ4 : W4.heap[gl]? = some (.cells #[.slice L.se.a n1 L.se.c, .slice L.po.a n2 L.po.c, .slice L.sg.a n3 L.sg.c, .slice (some ⟨xb, off, none⟩) n4 L.rt.c] 27) := grown_keep hg4 HQW.out (fun hk => by have := (HOW.out.lt _ hk).1; omega)
          rw [← HTT.out] at hown4
          have HO4 := Lib.hid hown4
          have HB4 := Lib.hid hB4
          have HQ4 := Lib.hid hQ4
          clear hown4 hB4 hQ4 hg4 HOW HBW HQW hsz l3
          go_wp2_with fail
          rw [← HXX.out]
          go_roundg (n4 - (i + 1))
          case rel => exact ⟨i + 1, by have := HI.out; omega, by go_num, HO4.out, by rw [HXX.out]; exact HQ4.out, HB4.out⟩
          case measure => have := HI.out; omega
    · have hni : n4 = i := by omega
      subst hni
      have hall : (tabS L).take n4 = tabS L := List.take_of_length_le (by rw [tabS_len, HN4.out]; exact Nat.le_refl _)
      rw [hall] at HO
      clear hall hi
      go_wp2_with fail
      go_ret2
      obtain ⟨sa, sc, hv, hs⟩ := own_sl (l := tabS L) u64_len (by rw [tabS_len, HN4.out]) HO.out
      subst hv
      exact ⟨sa, n4, sc, rfl, by rw [HT.out, tabS_len, HN4.out], by rw [HT.out]; exact hs, HB1.out⟩
end Go.Proofs.Ytififkielmddpaa
